import Derived.Test.YgvadwGreatVd
namespace Go.Proofs.YgvadwGreat
set_option linter.unusedSimpArgs false
set_option linter.unusedVariables false
theorem info21 : Hvad.prog.info? 21 = some Hvad.t21 := by kernel_rfl
theorem rowL_ic (l : List Int) : RowL encI 1 0 (ic .i32 l) l := by
  refine ⟨by rw [size_ic]; omega, ?_⟩
  intro i x hx k hk
  obtain rfl : k = 0 := by omega
  have e : 0 + i * 1 + 0 = i := by omega
  rw [e]
  simp [ic, encI, hx]
/-- One cell of the table of the temps is written. -/
theorem VS.elt_ttab {w : World} {C : Nat} {c : Array Value} {v : V} {B : VB} {β : Option Nat} (hv : VS w C c v B β) {bb cap i : Nat} {r : Array Value} {x : Int} (hab : B.tt = some (bb, cap)) (hcap : v.ttab.length ≤ cap) (hr : Hb w bb (.cells r 21 (0, 0))) (hrs : r.size = 1 * cap)
    (hrow : RowL encI 1 0 r v.ttab) (hi : v.ttab[i]? = some x) (y : Int) (hy : I32 y) :
    VS (setB w bb (.cells (r.setIfInBounds (0 + i * 1) (.int .i32 y)) 21 (0, 0))) C c { v with ttab := v.ttab.set i y } B β ∧ VStep w (setB w bb (.cells (r.setIfInBounds (0 + i * 1) (.int .i32 y)) 21 (0, 0))) C c c B B := by
  have hROW : Row encI 1 21 (setB w bb (.cells (r.setIfInBounds (0 + i * 1) (.int .i32 y)) 21 (0, 0))) B.tt (v.ttab.set i y) := by
    rw [hab]
    simp only [Row]
    refine ⟨by simpa using hcap, _, Hb.setSame hr, by rw [Array.size_setIfInBounds]; exact hrs, ?_⟩
    exact hrow.put (k := 0) (vs := [.int .i32 y]) hi (by simp) (by intro j hj; obtain rfl : j = 0 := by omega
                                                                   simp [encI])
  have hLEN : (v.ttab.set i y).length ≤ 16384 := by rw [List.length_set]; exact hv.ty.ltt
  have hTY : ∀ z ∈ v.ttab.set i y, I32 z := by
    intro z hz
    rcases List.mem_or_eq_of_mem_set hz with hz | hz
    · exact hv.ty.ttab z hz
    · subst hz; exact hy
  have hREP : VRep c { v with ttab := v.ttab.set i y } B := by
    have h := hv.rep
    exact { h with ttab := by have := h.ttab; rwa [← List.length_set (i := i) (a := y), ← ttS_set v.ttab i y] at this }
  refine ⟨⟨KT.setB hr (by decide) _ _ _ hv.blk, hREP, { accts := hv.rows.accts.kt (KT.setB hr (by decide)), slots := hv.rows.slots.kt (KT.setB hr (by decide)), journal := hv.rows.journal.kt (KT.setB hr (by decide)), logs := hv.rows.logs.kt (KT.setB hr (by decide)), temps := hv.rows.temps.kt (KT.setB hr (by decide)), ttab := hROW }, { hv.ty with ttab := hTY, ltt := hLEN }, fun y hy => (hv.codes y hy).kt (KT.setB hr (by decide)), fun y hy => (hv.olds y hy).kt (KT.setB hr (by decide))⟩, ⟨fun _ _ => rfl, (KeepO.refl _ w).setB (fun _ => ?_) _, fun _ hb => Or.inl hb⟩⟩
  unfold VOwn; simp [blkOf, hab]
theorem VS.openTT {w : World} {C : Nat} {c : Array Value} {v : V} {B : VB} {β : Option Nat} (hv : VS w C c v B β) {i : Nat} {x : Int} (hx : v.ttab[i]? = some x) :
    ∃ b cap r, B.tt = some (b, cap) ∧ v.ttab.length ≤ cap ∧ Hb w b (.cells r 21 (0, 0)) ∧ r.size = 1 * cap ∧ RowL encI 1 0 r v.ttab ∧ Ce c 27018 (.slice (some ⟨b, 0, none⟩) v.ttab.length cap) ∧ 0 + i * 1 + 1 ≤ r.size ∧ i < v.ttab.length ∧ Ce r (0 + i * 1) (.int .i32 x) := by
  obtain ⟨bt, capt, rt, habt, hcapt, hrt, hrst, hrowt⟩ := hv.rows.ttab.some hx
  have hdt : Ce c 27018 (.slice (some ⟨bt, 0, none⟩) v.ttab.length capt) := by have := hv.rep.ttab; rw [habt, ttS_some hx] at this; exact this
  exact ⟨bt, capt, rt, habt, hcapt, hrt, hrst, hrowt, hdt, hrowt.bd hx, lt_of_getElem? hx, hrowt.get hx (k := 0) (by decide) rfl⟩
def V.withTT (v : V) : V := if v.ttab.length = 16384 then v else { v with ttab := List.replicate 16384 (-1) }
def V.peekT (v : V) (A K : List Int) : Int := if 0 ≤ (v.findA A).1 then (v.findT (v.findA A).1 K).1 else -1
def V.tempNew (v : V) (a : Int) (K : List Int) : (Int × Bool) × V :=
  if (v.findT a K).2 < 0 then ((-1, false), v) else ((v.temps.length, true), { v with temps := v.temps ++ [newT a K], ttab := v.ttab.set (v.findT a K).2.toNat v.temps.length })
def V.tempOf (v : V) (A K : List Int) : (Int × Bool) × V :=
  if 0 ≤ v.peekT A K then ((v.peekT A K, true), v)
  else if 12288 ≤ v.temps.length then ((-1, false), v)
  else if (v.acct A).1.2 = true then (v.acct A).2.withTT.tempNew (v.acct A).1.1 K else ((-1, false), (v.acct A).2)
theorem findT_range (v : V) (a : Int) (K : List Int) : -1 ≤ (v.findT a K).1 ∧ -1 ≤ (v.findT a K).2 ∧ (v.findT a K).2 < 16384 ∧ (0 ≤ (v.findT a K).1 → hitT v.temps a K (v.findT a K).1 = true ∧ (v.findT a K).2 = -1 ∧ ∃ q, q < 16384 ∧ v.tt q = (v.findT a K).1) ∧ (0 ≤ (v.findT a K).2 → v.ttab.length = 16384) := by
  unfold V.findT
  split
  · rename_i h
    have := probe_range v.tt (hitT v.temps a K) 16384 (by decide) 16384 (mixS a K % 16384).toNat (by have := mixS_bd a K; omega)
    exact ⟨this.1, this.2.1, this.2.2.1, this.2.2.2, fun _ => h⟩
  · exact ⟨by decide, by decide, by decide, by intro h; exact absurd h (by decide), by intro h; exact absurd h (by decide)⟩
theorem findT_some {v : V} {a : Int} {K : List Int} (h : 0 ≤ (v.findT a K).1) : ∃ x, v.temps[(v.findT a K).1.toNat]? = some x ∧ x.acct = a ∧ x.key = K := by
  have h1 := ((findT_range v a K).2.2.2.1 h).1
  unfold hitT at h1
  split at h1
  · rename_i x hx; exact ⟨x, hx, of_decide_eq_true h1⟩
  · cases h1
theorem acct_temps (v : V) (A : List Int) : (v.acct A).2.temps = v.temps ∧ (v.acct A).2.ttab = v.ttab := by unfold V.acct; split; exact ⟨rfl, rfl⟩; split <;> exact ⟨rfl, rfl⟩
theorem withTT_temps (v : V) : v.withTT.temps = v.temps := by unfold V.withTT; split <;> rfl

set_option maxRecDepth 10000 in
theorem tempOf_spec (C : Nat) (c : Array Value) (v : V) (B : VB) (β : Option Nat) (A K : List Int) (w : World) (hv : VS w C c v B β) (hA : By A 20) (hK : Wd K) : Ret Hvad.prog 263 #[.pointer (some ⟨C, 2435, none⟩), .agg (ic .u8 A), .agg (ic .u64 K)] w fun u w' => u = .tuple #[.int .i32 (v.tempOf A K).1.1, .bool (v.tempOf A K).1.2] ∧ VRet w C c B β w' (v.tempOf A K).2 := by
  have hAl := hA.1
  have hKl := hK.1
  have hlt := hv.ty.lt
  have hltt := hv.ty.ltt
  have hai := acct_i32 hv A
  have hfi := findA_i32 hv A
  have hen : (encT ⟨(v.acct A).1.1, K, [0, 0, 0, 0]⟩).toArray.size = 9 := by simp [encT, hKl]
  refine Ret_of_W Hvad.func263 rfl rfl ?_
  refine W_seq ?_
  refine W_region rfl ?_
  refine WO_box (.agg _) rfl ?_
  refine WO_box (.agg _) rfl ?_
  refine WO_p (PS_assign_int rfl) ?_
  refine WO_p (PS_assign_bool rfl) ?_
  refine WO_nil ?_
  refine thn_normal ?_
  refine W_seq ?_
  refine W_region rfl ?_
  refine WO_p (PS_move_ptr rfl) ?_
  refine WO_loadA _ Hvad.isAgg25 Hvad.sizeOf25 rfl (Hb.h (by repeat (first | assumption | exact Hb.newY _ _ | refine Hb.alloc ?_ | refine Hb.drew ?_ | refine Hb.ext (by assumption) ?_ | exact Hb.setSameL (by first | omega | (simp only [size_alloc, size_setB, size_drew]; omega)) | exact Hb.setSame (by assumption) | refine Hb.set (by first | omega | (simp only [size_alloc, size_setB, size_drew]; omega)) ?_ ))) (by first | omega | assumption | rfl | decide | (simp only [size_ic, Value.cells]; omega) | simp) (Xt.h (by first | assumption | exact Xt.whole rfl rfl | exact Xt.whole rfl (by simp only [size_ic, Value.cells]; omega) | exact ⟨rfl⟩)) ?_
  refine WO_call Hvad.call75 (by rfl) (Ret.mono (findAcct_spec C c v B β A _ (hv.ext (by repeat (first | assumption | exact Ext.refl _ | refine Ext.alloc ?_ _ | refine Ext.drew ?_ | refine Ext.setB ?_ (by first | omega | (simp only [size_alloc, size_setB, size_drew]; omega)) _ | exact Ext.trans (by assumption) (by assumption) | refine Ext.trans ?_ (by assumption)))) hA) ?_)
  rintro _ w1 ⟨rfl, hE1⟩
  have hA1 : Hb w1 w.heap.size (.cells (ic .u8 A) 25 (0, 0)) := Hb.ext hE1 (Hb.alloc (Hb.newY _ _))
  have hK1 : Hb w1 (w.alloc _).heap.size (.cells (ic .u64 K) 59 (0, 0)) := Hb.ext hE1 (Hb.newY _ _)
  replace hE1 : Ext w w1 := Ext.trans (Ext.alloc (Ext.alloc (Ext.refl w) _) _) hE1
  have hv1 := hv.ext hE1
  have hb1 := hv1.blk
  have hdt1 : Ce c 27017 (.slice (slp B.t) v.temps.length (slc B.t)) := hv1.rep.temps
  refine WO_p (PS_move_tuple rfl) ?_
  refine WO_p (PS_extract_int rfl rfl) ?_
  refine WO_p (PS_extract_int rfl rfl) ?_
  refine WO_p (PS_assign_int rfl) ?_
  refine WO_p (PS_assign_int rfl) ?_
  refine WO_nil ?_
  refine thn_normal ?_
  refine W_seq ?_
  refine W_region rfl ?_
  refine WO_p (PS_assign_int rfl) ?_
  refine WO_nil ?_
  refine thn_normal ?_
  refine W_seq ?_
  refine W_seq ?_
  refine W_region rfl ?_
  refine WO_p (PS_move_int rfl) ?_
  refine WO_p (PS_geq rfl rfl) ?_
  refine WO_nil ?_
  refine thn_normal ?_
  refine W_if rfl (fun hb3 => ?_) (fun hb3 => ?_)
  · have hb3p := hb3.h; simp only [al_ete, al_dfn, Bool.not_eq_true', Bool.not_eq_false', al_ne, Bool.not_not, al_nn] at hb3p
    have h22 := hb3p
    have hpk : v.peekT A K = (v.findT (v.findA A).1 K).1 := by rw [V.peekT, if_pos h22]
    refine W_region rfl ?_
    refine WO_p (PS_move_ptr rfl) ?_
    refine WO_p (PS_move_int rfl) ?_
    refine WO_loadA _ Hvad.isAgg59 Hvad.sizeOf59 rfl (Hb.h (by repeat (first | assumption | exact Hb.newY _ _ | refine Hb.alloc ?_ | refine Hb.drew ?_ | refine Hb.ext (by assumption) ?_ | exact Hb.setSameL (by first | omega | (simp only [size_alloc, size_setB, size_drew]; omega)) | exact Hb.setSame (by assumption) | refine Hb.set (by first | omega | (simp only [size_alloc, size_setB, size_drew]; omega)) ?_ ))) (by first | omega | assumption | rfl | decide | (simp only [size_ic, Value.cells]; omega) | simp) (Xt.h (by first | assumption | exact Xt.whole rfl rfl | exact Xt.whole rfl (by simp only [size_ic, Value.cells]; omega) | exact ⟨rfl⟩)) ?_
    refine WO_call Hvad.call262 (by rfl) (Ret.mono (findTemp_spec C c v B β _ K _ hv1 hfi hK) ?_)
    rintro _ w1b ⟨rfl, hE1b⟩
    replace hA1 := Hb.ext hE1b hA1
    replace hK1 := Hb.ext hE1b hK1
    replace hv1 := hv1.ext hE1b
    replace hb1 := hv1.blk
    replace hE1 := Ext.trans hE1 hE1b
    clear hE1b
    refine WO_p (PS_move_tuple rfl) ?_
    refine WO_p (PS_extract_int rfl rfl) ?_
    refine WO_p (PS_extract_int rfl rfl) ?_
    refine WO_p (PS_assign_int rfl) ?_
    refine WO_nil ?_
    refine thn_normal ?_
    refine W_seq ?_
    refine W_seq ?_
    refine W_region rfl ?_
    refine WO_p (PS_move_int rfl) ?_
    refine WO_p (PS_geq rfl rfl) ?_
    refine WO_nil ?_
    refine thn_normal ?_
    refine W_if rfl (fun hb6 => ?_) (fun hb6 => ?_)
    · have hb6p := hb6.h; simp only [al_ete, al_dfn, Bool.not_eq_true', Bool.not_eq_false', al_ne, Bool.not_not, al_nn] at hb6p
      have h31 : 0 ≤ v.peekT A K := by omega
      refine W_seq ?_
      refine W_region rfl ?_
      refine WO_p (PS_move_int rfl) ?_
      refine WO_p (PS_assign_int rfl) ?_
      refine WO_p (PS_assign_bool rfl) ?_
      refine WO_nil ?_
      refine thn_normal ?_
      refine W_ret ?_
      refine thn_ret ?_
      refine bodyQ_ret2 Hvad.results263 rfl rfl (.int _ _) (.bool _) rfl rfl ?_
      first
      | (rw [V.tempOf, if_pos h31, hpk]; exact ⟨rfl, VRet.ext hv hE1⟩)
      | (rw [V.tempOf, if_neg h31, if_pos h38]; exact ⟨rfl, VRet.ext hv hE1⟩)
      | (rw [V.tempOf, if_neg h31, if_neg h38, if_neg (by rw [hok]; decide)]; exact ⟨rfl, ⟨_, _, hv2, VStep.pre hE1 hs2⟩⟩)
      | (rw [V.tempOf, if_neg h31, if_neg h38, if_pos hok, V.tempNew, if_pos h80]; exact ⟨rfl, ⟨_, _, hv5, ((VStep.pre hE1 hsX).trans (VStep.ext hE5))⟩⟩)
      | (rw [V.tempOf, if_neg h31, if_neg h38, if_pos hok, V.tempNew, if_neg h80]; exact ⟨rfl, ⟨_, _, hV8, (((VStep.pre hE1 hsX).trans (VStep.ext hE5)).trans (VStep.pre (by repeat (first | assumption | exact Ext.refl _ | refine Ext.alloc ?_ _ | refine Ext.drew ?_ | refine Ext.setB ?_ (by first | omega | (simp only [size_alloc, size_setB, size_drew]; omega)) _ | refine Ext.trans ?_ (by assumption))) hS7)).trans hS8⟩⟩)
    · have hb6p := hb6.h; simp only [al_ete, al_dfn, Bool.not_eq_true', Bool.not_eq_false', al_ne, Bool.not_not, al_nn] at hb6p
      have h31 : ¬ 0 ≤ v.peekT A K := by omega
      refine W_skip ?_
      refine thn_normal ?_
      refine W_seq ?_
      refine W_seq ?_
      refine W_region rfl ?_
      refine WO_p (PS_move_ptr rfl) ?_
      refine WO_p (PS_nilCheck rfl) ?_
      refine WO_p (PS_fieldAddr 24582 Hvad.runUnderlying79 rfl Hvad.sizeOf76 rfl rfl) ?_
      refine WO_load (.slice _ _ _) Hvad.isAgg76 rfl (Hb.h (by repeat (first | assumption | exact Hb.newY _ _ | refine Hb.alloc ?_ | refine Hb.drew ?_ | refine Hb.ext (by assumption) ?_ | exact Hb.setSameL (by first | omega | (simp only [size_alloc, size_setB, size_drew]; omega)) | exact Hb.setSame (by assumption) | refine Hb.set (by first | omega | (simp only [size_alloc, size_setB, size_drew]; omega)) ?_ ))) (Ce.h (by first | assumption | exact ⟨rfl⟩)) ?_
      refine WO_p (PS_lenS Hvad.runUnderlying76 rfl) ?_
      refine WO_p (PS_geq rfl rfl) ?_
      refine WO_nil ?_
      refine thn_normal ?_
      refine W_if rfl (fun hb8 => ?_) (fun hb8 => ?_)
      · have hb8p := hb8.h; simp only [al_ete, al_dfn, Bool.not_eq_true', Bool.not_eq_false', al_ne, Bool.not_not, al_nn] at hb8p
        have h38 : 12288 ≤ v.temps.length := by omega
        refine W_seq ?_
        refine W_region rfl ?_
        refine WO_p (PS_assign_int rfl) ?_
        refine WO_p (PS_assign_bool rfl) ?_
        refine WO_nil ?_
        refine thn_normal ?_
        refine W_ret ?_
        refine thn_ret ?_
        refine bodyQ_ret2 Hvad.results263 rfl rfl (.int _ _) (.bool _) rfl rfl ?_
        first
        | (rw [V.tempOf, if_pos h31, hpk]; exact ⟨rfl, VRet.ext hv hE1⟩)
        | (rw [V.tempOf, if_neg h31, if_pos h38]; exact ⟨rfl, VRet.ext hv hE1⟩)
        | (rw [V.tempOf, if_neg h31, if_neg h38, if_neg (by rw [hok]; decide)]; exact ⟨rfl, ⟨_, _, hv2, VStep.pre hE1 hs2⟩⟩)
        | (rw [V.tempOf, if_neg h31, if_neg h38, if_pos hok, V.tempNew, if_pos h80]; exact ⟨rfl, ⟨_, _, hv5, ((VStep.pre hE1 hsX).trans (VStep.ext hE5))⟩⟩)
        | (rw [V.tempOf, if_neg h31, if_neg h38, if_pos hok, V.tempNew, if_neg h80]; exact ⟨rfl, ⟨_, _, hV8, (((VStep.pre hE1 hsX).trans (VStep.ext hE5)).trans (VStep.pre (by repeat (first | assumption | exact Ext.refl _ | refine Ext.alloc ?_ _ | refine Ext.drew ?_ | refine Ext.setB ?_ (by first | omega | (simp only [size_alloc, size_setB, size_drew]; omega)) _ | refine Ext.trans ?_ (by assumption))) hS7)).trans hS8⟩⟩)
      · have hb8p := hb8.h; simp only [al_ete, al_dfn, Bool.not_eq_true', Bool.not_eq_false', al_ne, Bool.not_not, al_nn] at hb8p
        have h38 : ¬ 12288 ≤ v.temps.length := by omega
        refine W_skip ?_
        refine thn_normal ?_
        refine W_seq ?_
        refine W_region rfl ?_
        refine WO_p (PS_move_ptr rfl) ?_
        refine WO_loadA _ Hvad.isAgg25 Hvad.sizeOf25 rfl (Hb.h (by repeat (first | assumption | exact Hb.newY _ _ | refine Hb.alloc ?_ | refine Hb.drew ?_ | refine Hb.ext (by assumption) ?_ | exact Hb.setSameL (by first | omega | (simp only [size_alloc, size_setB, size_drew]; omega)) | exact Hb.setSame (by assumption) | refine Hb.set (by first | omega | (simp only [size_alloc, size_setB, size_drew]; omega)) ?_ ))) (by first | omega | assumption | rfl | decide | (simp only [size_ic, Value.cells]; omega) | simp) (Xt.h (by first | assumption | exact Xt.whole rfl rfl | exact Xt.whole rfl (by simp only [size_ic, Value.cells]; omega) | exact ⟨rfl⟩)) ?_
        refine WO_call Hvad.call53 (by rfl) (Ret.mono (acct_spec C c v B β A _ hv1 hA) ?_)
        rintro _ w2 ⟨rfl, c2, B2, hv2, hs2⟩
        have hK2 := hs2.hb hv1 hK1 (by decide)
        have hb2 := hv2.blk
        have hdt2 : Ce c2 27018 (.slice (slp (ttS (v.acct A).2.ttab B2.tt)) (v.acct A).2.ttab.length (slc (ttS (v.acct A).2.ttab B2.tt))) := hv2.rep.ttab
        obtain ⟨hat, hatt⟩ := acct_temps v A
        refine WO_p (PS_move_tuple rfl) ?_
        refine WO_p (PS_extract_int rfl rfl) ?_
        refine WO_p (PS_extract_bool rfl rfl) ?_
        refine WO_p (PS_assign_int rfl) ?_
        refine WO_p (PS_assign_bool rfl) ?_
        refine WO_nil ?_
        refine thn_normal ?_
        refine W_seq ?_
        refine W_seq ?_
        refine W_region rfl ?_
        refine WO_p (PS_move_bool rfl) ?_
        refine WO_p (PS_not rfl) ?_
        refine WO_nil ?_
        refine thn_normal ?_
        refine W_if rfl (fun hb12 => ?_) (fun hb12 => ?_)
        · have hb12p := hb12.h; simp only [al_ete, al_dfn, Bool.not_eq_true', Bool.not_eq_false', al_ne, Bool.not_not, al_nn] at hb12p
          have hok := hb12p
          refine W_seq ?_
          refine W_region rfl ?_
          refine WO_p (PS_assign_int rfl) ?_
          refine WO_p (PS_assign_bool rfl) ?_
          refine WO_nil ?_
          refine thn_normal ?_
          refine W_ret ?_
          refine thn_ret ?_
          refine bodyQ_ret2 Hvad.results263 rfl rfl (.int _ _) (.bool _) rfl rfl ?_
          first
          | (rw [V.tempOf, if_pos h31, hpk]; exact ⟨rfl, VRet.ext hv hE1⟩)
          | (rw [V.tempOf, if_neg h31, if_pos h38]; exact ⟨rfl, VRet.ext hv hE1⟩)
          | (rw [V.tempOf, if_neg h31, if_neg h38, if_neg (by rw [hok]; decide)]; exact ⟨rfl, ⟨_, _, hv2, VStep.pre hE1 hs2⟩⟩)
          | (rw [V.tempOf, if_neg h31, if_neg h38, if_pos hok, V.tempNew, if_pos h80]; exact ⟨rfl, ⟨_, _, hv5, ((VStep.pre hE1 hsX).trans (VStep.ext hE5))⟩⟩)
          | (rw [V.tempOf, if_neg h31, if_neg h38, if_pos hok, V.tempNew, if_neg h80]; exact ⟨rfl, ⟨_, _, hV8, (((VStep.pre hE1 hsX).trans (VStep.ext hE5)).trans (VStep.pre (by repeat (first | assumption | exact Ext.refl _ | refine Ext.alloc ?_ _ | refine Ext.drew ?_ | refine Ext.setB ?_ (by first | omega | (simp only [size_alloc, size_setB, size_drew]; omega)) _ | refine Ext.trans ?_ (by assumption))) hS7)).trans hS8⟩⟩)
        · have hb12p := hb12.h; simp only [al_ete, al_dfn, Bool.not_eq_true', Bool.not_eq_false', al_ne, Bool.not_not, al_nn] at hb12p
          have hok := hb12p
          refine W_skip ?_
          refine thn_normal ?_
          refine W_seq ?_
          refine W_seq ?_
          refine W_region rfl ?_
          refine WO_p (PS_move_ptr rfl) ?_
          refine WO_p (PS_nilCheck rfl) ?_
          refine WO_p (PS_fieldAddr 24583 Hvad.runUnderlying79 rfl Hvad.sizeOf77 rfl rfl) ?_
          refine WO_load (.slice _ _ _) Hvad.isAgg77 rfl (Hb.h (by repeat (first | assumption | exact Hb.newY _ _ | refine Hb.alloc ?_ | refine Hb.drew ?_ | refine Hb.ext (by assumption) ?_ | exact Hb.setSameL (by first | omega | (simp only [size_alloc, size_setB, size_drew]; omega)) | exact Hb.setSame (by assumption) | refine Hb.set (by first | omega | (simp only [size_alloc, size_setB, size_drew]; omega)) ?_ ))) (Ce.h (by first | assumption | exact ⟨rfl⟩)) ?_
          refine WO_p (PS_lenS Hvad.runUnderlying77 rfl) ?_
          refine WO_p (PS_neq rfl rfl) ?_
          refine WO_nil ?_
          refine thn_normal ?_
          refine W_if rfl (fun hb14 => ?_) (fun hb14 => ?_)
          · have hb14p := hb14.h; simp only [al_ete, al_dfn, Bool.not_eq_true', Bool.not_eq_false', al_ne, Bool.not_not, al_nn] at hb14p
            have h52 : ¬ (v.acct A).2.ttab.length = 16384 := by omega
            refine W_seq ?_
            refine W_region rfl ?_
            refine WO_p (PS_move_ptr rfl) ?_
            refine WO_make (z := .int .i32 0) Hvad.underlying77 info21 rfl rfl rfl (by decide) (by decide) (by decide) (by decide) ?_
            refine WO_p (PS_nilCheck rfl) ?_
            refine WO_p (PS_fieldAddr 24583 Hvad.runUnderlying79 rfl Hvad.sizeOf77 rfl rfl) ?_
            have hv3 := hv2.ext (Ext.alloc (Ext.refl w2) (.cells (madeCells (Value.int IntKind.i32 0).cells ((16384 : Int).toNat * Hvad.t21.size)) 21))
            obtain ⟨Z, hZ⟩ : ∃ Z : List Int, Z = List.replicate 16384 0 := ⟨_, rfl⟩
            have hZl : Z.length = 16384 := by rw [hZ, List.length_replicate]
            have hZI : ∀ x ∈ Z, I32 x := by intro x hx; rw [hZ] at hx; rw [(List.mem_replicate.1 hx).2]; unfold I32; omega
            have hmade : madeCells (Value.int IntKind.i32 0).cells ((16384 : Int).toNat * Hvad.t21.size) = ic .i32 Z := by
              rw [hZ]; exact made_ic .i32 16384
            rw [hmade] at hv3 ⊢
            clear hZ hmade
            refine WO_store1 Hvad.sizeOf77 rfl (v := slv (some (w2.heap.size, 16384)) 16384) rfl hv3.blk.h rfl (by rw [hv3.rep.size]; decide) rfl ?_
            have hrow3 : VS _ C _ { (v.acct A).2 with ttab := Z } { B2 with tt := some (w2.heap.size, 16384) } β ∧ VStep w2 _ C c2 _ B2 { B2 with tt := some (w2.heap.size, 16384) } := VS.row_ttab hv2 (w2 := w2.alloc (.cells (ic .i32 Z) 21)) (l := Z) (s := some (w2.heap.size, 16384)) ⟨by omega, ic .i32 Z, Hb.newY _ _, by rw [size_ic]; omega, rowL_ic Z⟩ ((Ext.alloc (Ext.refl w2) _).keepO _) (fun b hb => Or.inr (by obtain ⟨cap, hb⟩ := hb; injection hb with hb; injection hb with hb; omega)) hZI (by omega) (fun e => by rw [show Z = [] from e] at hZl; cases hZl)
            rw [hZl] at hrow3
            obtain ⟨hV3, hS3⟩ := hrow3
            have hK3 := hS3.hb hv2 hK2 (by decide)
            have hb3 := hV3.blk
            have hdt3 := hV3.rep.ttab
            rw [ttS_ne (fun e => by rw [show Z = [] from e] at hZl; cases hZl)] at hdt3
            replace hdt3 : Ce _ 27018 (.slice (some ⟨w2.heap.size, 0, none⟩) Z.length 16384) := hdt3
            refine WO_nil ?_
            refine thn_normal ?_
            refine W_seq ?_
            refine W_region rfl ?_
            refine WO_p (PS_move_ptr rfl) ?_
            refine WO_p (PS_nilCheck rfl) ?_
            refine WO_p (PS_fieldAddr 24583 Hvad.runUnderlying79 rfl Hvad.sizeOf77 rfl rfl) ?_
            refine WO_load (.slice _ _ _) Hvad.isAgg77 rfl (Hb.h (by repeat (first | assumption | exact Hb.newY _ _ | refine Hb.alloc ?_ | refine Hb.drew ?_ | refine Hb.ext (by assumption) ?_ | exact Hb.setSameL (by first | omega | (simp only [size_alloc, size_setB, size_drew]; omega)) | exact Hb.setSame (by assumption) | refine Hb.set (by first | omega | (simp only [size_alloc, size_setB, size_drew]; omega)) ?_ ))) (Ce.h (by first | assumption | exact ⟨rfl⟩)) ?_
            refine WO_p (PS_lenS Hvad.runUnderlying77 rfl) ?_
            refine WO_p (PS_move_int rfl) ?_
            refine WO_nil ?_
            refine thn_normal ?_
            refine W_block ?_
            refine W_loopN (fun m ρ w' => ∃ (i : Nat) (c' : Array Value) (B' : VB) (Z' : List Int), m + i = 16384 ∧ Z'.length = 16384 ∧ (∀ k, k < i → Z'[k]? = some (-1)) ∧ Fr [(0, .pointer (some ⟨C, 2435, none⟩)), (5, .pointer (some ⟨(w.alloc (.cells (Value.agg (ic .u8 A)).cells 25)).heap.size, 0, none⟩)), (8, .int .i32 (v.acct A).1.1), (61, .int .i64 16384), (62, .int .i64 i)] ρ ∧ VS w' C c' { (v.acct A).2 with ttab := Z' } B' β ∧ VStep w2 w' C c2 c' B2 B' ∧ Hb w' (w.alloc (.cells (Value.agg (ic .u8 A)).cells 25)).heap.size (.cells (ic .u64 K) 59 (0, 0))) 16384 ?_ ?_
            · exact ⟨0, _, _, Z, rfl, hZl, fun k hk => absurd hk (by omega), ⟨rfl, rfl, rfl, congrArg (Value.int .i64) (by omega), rfl, trivial⟩, hV3, hS3, hK3⟩
            clear hV3 hS3 hK3 hb3 hdt3 hZI hZl hv3
            clear Z
            intro m ρ w4 hI
            obtain ⟨i, c4, B4, Z, hmi, hZl, hZ1, hF, hv4, hs4, hK4⟩ := hI
            refine W_env _ hF ?_
            have hb4 := hv4.blk
            refine W_seq ?_
            refine W_region rfl ?_
            refine WO_p (PS_lss rfl rfl) ?_
            refine WO_nil ?_
            refine thn_normal ?_
            refine W_seq ?_
            refine W_if rfl (fun hb16 => ?_) (fun hb16 => ?_)
            · have hb16p := hb16.h; simp only [al_ete, al_dfn, Bool.not_eq_true', Bool.not_eq_false', al_ne, Bool.not_not, al_nn] at hb16p
              obtain ⟨y, hy⟩ : ∃ y, Z[i]? = some y := ⟨_, List.getElem?_eq_getElem (by omega)⟩
              obtain ⟨bt, capt, rt, habt, hcapt, hrt, hrst, hrowt, hdt4, hbd4, hil4, hce4⟩ := hv4.openTT (i := i) (x := y) hy
              replace hdt4 : Ce c4 27018 (.slice (some ⟨bt, 0, none⟩) Z.length capt) := hdt4
              refine W_skip ?_
              refine thn_normal ?_
              refine W_seq ?_
              refine W_block ?_
              refine W_seq ?_
              refine W_region rfl ?_
              refine WO_p (PS_move_int rfl) ?_
              refine WO_p (PS_assign_int rfl) ?_
              refine WO_nil ?_
              refine thn_normal ?_
              refine W_region rfl ?_
              refine WO_p (PS_move_ptr rfl) ?_
              refine WO_p (PS_nilCheck rfl) ?_
              refine WO_p (PS_fieldAddr 24583 Hvad.runUnderlying79 rfl Hvad.sizeOf77 rfl rfl) ?_
              refine WO_load (.slice _ _ _) Hvad.isAgg77 rfl (Hb.h (by repeat (first | assumption | exact Hb.newY _ _ | refine Hb.alloc ?_ | refine Hb.drew ?_ | refine Hb.ext (by assumption) ?_ | exact Hb.setSameL (by first | omega | (simp only [size_alloc, size_setB, size_drew]; omega)) | exact Hb.setSame (by assumption) | refine Hb.set (by first | omega | (simp only [size_alloc, size_setB, size_drew]; omega)) ?_ ))) (Ce.h (by first | assumption | exact ⟨rfl⟩)) ?_
              refine WO_p (PS_move_int rfl) ?_
              refine WO_p (PS_indexS Hvad.runUnderlying77 Hvad.sizeOf21 rfl rfl (by omega) (by omega)) ?_
              refine WO_store1 Hvad.sizeOf21 rfl (v := .int _ _) rfl hrt.h rfl (by omega) rfl ?_
              obtain ⟨hV5, hS5⟩ := hv4.elt_ttab habt hcapt hrt hrst hrowt (i := i) (x := y) hy (-1) (by unfold I32; omega)
              have hK5 := hS5.hb hv4 hK4 (by decide)
              refine WO_nil ?_
              refine inBlk_normal ?_
              refine thn_normal ?_
              refine W_region rfl ?_
              refine WO_p (PS_add_i64n rfl rfl (by omega) (by omega)) ?_
              refine WO_p (PS_move_int rfl) ?_
              refine WO_nil ?_
              refine thn_normal ?_
              obtain ⟨m', rfl⟩ : ∃ m', m = m' + 1 := ⟨m - 1, by omega⟩
              refine ⟨m', by omega, i + 1, _, _, Z.set i (-1), by omega, by rw [List.length_set]; exact hZl, ?_, ⟨rfl, rfl, rfl, rfl, congrArg (Value.int .i64) (by omega), trivial⟩, hV5, hs4.trans hS5, hK5⟩
              intro k hk
              rw [List.getElem?_set]
              split
              · first | rfl | (rename_i e; rw [if_pos (by omega)])
              · exact hZ1 k (by omega)
            · have hb16p := hb16.h; simp only [al_ete, al_dfn, Bool.not_eq_true', Bool.not_eq_false', al_ne, Bool.not_not, al_nn] at hb16p
              obtain rfl : m = 0 := by omega
              have hvX : VS w4 C c4 (v.acct A).2.withTT B4 β := by
                rw [V.withTT, if_neg h52]
                have e : Z = List.replicate 16384 (-1) := by
                  refine List.ext_getElem? fun k => ?_
                  by_cases hk : k < 16384
                  · rw [hZ1 k (by omega), List.getElem?_replicate, if_pos hk]
                  · rw [List.getElem?_eq_none (by omega), List.getElem?_eq_none (by rw [List.length_replicate]; omega)]
                rw [← e]; exact hv4
              have hsX := hs2.trans hs4
              have hKX := hK4
              have hbX := hvX.blk
              refine W_exit ?_
              refine thn_exit ?_
              refine thn_exit ?_
              refine inBlk_exit ?_
              refine thn_normal ?_
              refine W_seq ?_
              refine W_region rfl ?_
              refine WO_p (PS_move_ptr rfl) ?_
              refine WO_p (PS_move_int rfl) ?_
              refine WO_loadA _ Hvad.isAgg59 Hvad.sizeOf59 rfl (Hb.h (by repeat (first | assumption | exact Hb.newY _ _ | refine Hb.alloc ?_ | refine Hb.drew ?_ | refine Hb.ext (by assumption) ?_ | exact Hb.setSameL (by first | omega | (simp only [size_alloc, size_setB, size_drew]; omega)) | exact Hb.setSame (by assumption) | refine Hb.set (by first | omega | (simp only [size_alloc, size_setB, size_drew]; omega)) ?_ ))) (by first | omega | assumption | rfl | decide | (simp only [size_ic, Value.cells]; omega) | simp) (Xt.h (by first | assumption | exact Xt.whole rfl rfl | exact Xt.whole rfl (by simp only [size_ic, Value.cells]; omega) | exact ⟨rfl⟩)) ?_
              refine WO_call Hvad.call262 (by rfl) (Ret.mono (findTemp_spec C _ _ _ _ _ K _ hvX hai hK) ?_)
              rintro _ w5 ⟨rfl, hE5⟩
              have hv5 := hvX.ext hE5
              have hb5 := hv5.blk
              have hK5 := Hb.ext hE5 hKX
              have hfr := findT_range (v.acct A).2.withTT (v.acct A).1.1 K
              have hl5 : (v.acct A).2.withTT.temps.length = v.temps.length := by rw [withTT_temps, hat]
              have hdt5 : Ce _ 27017 (.slice (slp _) (v.acct A).2.withTT.temps.length (slc _)) := hv5.rep.temps
              refine WO_p (PS_move_tuple rfl) ?_
              refine WO_p (PS_extract_int rfl rfl) ?_
              refine WO_p (PS_extract_int rfl rfl) ?_
              refine WO_p (PS_assign_int rfl) ?_
              refine WO_p (PS_assign_int rfl) ?_
              refine WO_nil ?_
              refine thn_normal ?_
              refine W_seq ?_
              refine W_seq ?_
              refine W_region rfl ?_
              refine WO_p (PS_move_int rfl) ?_
              refine WO_p (PS_lss rfl rfl) ?_
              refine WO_nil ?_
              refine thn_normal ?_
              refine W_if rfl (fun hb19 => ?_) (fun hb19 => ?_)
              · have hb19p := hb19.h; simp only [al_ete, al_dfn, Bool.not_eq_true', Bool.not_eq_false', al_ne, Bool.not_not, al_nn] at hb19p
                have h80 := hb19p
                refine W_seq ?_
                refine W_region rfl ?_
                refine WO_p (PS_assign_int rfl) ?_
                refine WO_p (PS_assign_bool rfl) ?_
                refine WO_nil ?_
                refine thn_normal ?_
                refine W_ret ?_
                refine thn_ret ?_
                refine bodyQ_ret2 Hvad.results263 rfl rfl (.int _ _) (.bool _) rfl rfl ?_
                first
                | (rw [V.tempOf, if_pos h31, hpk]; exact ⟨rfl, VRet.ext hv hE1⟩)
                | (rw [V.tempOf, if_neg h31, if_pos h38]; exact ⟨rfl, VRet.ext hv hE1⟩)
                | (rw [V.tempOf, if_neg h31, if_neg h38, if_neg (by rw [hok]; decide)]; exact ⟨rfl, ⟨_, _, hv2, VStep.pre hE1 hs2⟩⟩)
                | (rw [V.tempOf, if_neg h31, if_neg h38, if_pos hok, V.tempNew, if_pos h80]; exact ⟨rfl, ⟨_, _, hv5, ((VStep.pre hE1 hsX).trans (VStep.ext hE5))⟩⟩)
                | (rw [V.tempOf, if_neg h31, if_neg h38, if_pos hok, V.tempNew, if_neg h80]; exact ⟨rfl, ⟨_, _, hV8, (((VStep.pre hE1 hsX).trans (VStep.ext hE5)).trans (VStep.pre (by repeat (first | assumption | exact Ext.refl _ | refine Ext.alloc ?_ _ | refine Ext.drew ?_ | refine Ext.setB ?_ (by first | omega | (simp only [size_alloc, size_setB, size_drew]; omega)) _ | refine Ext.trans ?_ (by assumption))) hS7)).trans hS8⟩⟩)
              · have hb19p := hb19.h; simp only [al_ete, al_dfn, Bool.not_eq_true', Bool.not_eq_false', al_ne, Bool.not_not, al_nn] at hb19p
                have h80 := hb19p
                refine W_skip ?_
                refine thn_normal ?_
                refine W_seq ?_
                refine W_region rfl ?_
                refine WO_p (PS_move_ptr rfl) ?_
                refine WO_p (PS_nilCheck rfl) ?_
                refine WO_p (PS_fieldAddr 24582 Hvad.runUnderlying79 rfl Hvad.sizeOf76 rfl rfl) ?_
                refine WO_load (.slice _ _ _) Hvad.isAgg76 rfl (Hb.h (by repeat (first | assumption | exact Hb.newY _ _ | refine Hb.alloc ?_ | refine Hb.drew ?_ | refine Hb.ext (by assumption) ?_ | exact Hb.setSameL (by first | omega | (simp only [size_alloc, size_setB, size_drew]; omega)) | exact Hb.setSame (by assumption) | refine Hb.set (by first | omega | (simp only [size_alloc, size_setB, size_drew]; omega)) ?_ ))) (Ce.h (by first | assumption | exact ⟨rfl⟩)) ?_
                refine WO_p (PS_lenS Hvad.runUnderlying76 rfl) ?_
                refine WO_p (PS_conv_i32n Hvad.runUnderlying3 Hvad.runUnderlying21 rfl (by omega) (by omega)) ?_
                refine WO_p (PS_assign_int rfl) ?_
                refine WO_nil ?_
                refine thn_normal ?_
                refine W_seq ?_
                refine W_drawE [false, false, false, false, false, false, false, false, true, false, false, false, false] hmix (by kernel_rfl) rfl ?_
                refine WH_p (PS_move_ptr rfl) rfl ?_
                refine WH_p (PS_move_ptr rfl) rfl ?_
                refine WH_p (PS_nilCheck rfl) rfl ?_
                refine WH_p (PS_fieldAddr 24582 Hvad.runUnderlying79 rfl Hvad.sizeOf76 rfl rfl) rfl ?_
                refine WH_load (.slice _ _ _) Hvad.isAgg76 rfl (Hb.h (by repeat (first | assumption | exact Hb.newY _ _ | refine Hb.alloc ?_ | refine Hb.drew ?_ | refine Hb.ext (by assumption) ?_ | exact Hb.setSameL (by first | omega | (simp only [size_alloc, size_setB, size_drew]; omega)) | exact Hb.setSame (by assumption) | refine Hb.set (by first | omega | (simp only [size_alloc, size_setB, size_drew]; omega)) ?_ ))) (Ce.h (by first | assumption | exact ⟨rfl⟩)) ?_
                refine WH_p (PS_move_int rfl) rfl ?_
                refine WH_loadA _ Hvad.isAgg59 Hvad.sizeOf59 rfl (Hb.h (by repeat (first | assumption | exact Hb.newY _ _ | refine Hb.alloc ?_ | refine Hb.drew ?_ | refine Hb.ext (by assumption) ?_ | exact Hb.setSameL (by first | omega | (simp only [size_alloc, size_setB, size_drew]; omega)) | exact Hb.setSame (by assumption) | refine Hb.set (by first | omega | (simp only [size_alloc, size_setB, size_drew]; omega)) ?_ ))) (by first | omega | assumption | rfl | decide | (simp only [size_ic, Value.cells]; omega) | simp) (Xt.h (by first | assumption | exact Xt.whole rfl rfl | exact Xt.whole rfl (by simp only [size_ic, Value.cells]; omega) | exact ⟨rfl⟩)) ?_
                refine WH_p (PS_b305_01 rfl rfl hK.1) rfl ?_
                refine WH_buildSlice1 Hvad.runUnderlying76 Hvad.sizeOf305 Hvad.zeroValue305 rfl (by first | omega | assumption | rfl | decide | (simp only [size_ic, Value.cells]; omega) | simp) (by decide) (by decide) (fun _ => (by repeat (first | assumption | exact Ext.refl _ | refine Ext.alloc ?_ _ | refine Ext.drew ?_ | refine Ext.setB ?_ (by first | omega | (simp only [size_alloc, size_setB, size_drew]; omega)) _ | exact Ext.trans (by assumption) (by assumption) | refine Ext.trans ?_ (by assumption)))) ?_
                refine WH_push_temps (hv5.ext (by repeat (first | assumption | exact Ext.refl _ | refine Ext.alloc ?_ _ | refine Ext.drew ?_ | refine Ext.setB ?_ (by first | omega | (simp only [size_alloc, size_setB, size_drew]; omega)) _ | exact Ext.trans (by assumption) (by assumption) | refine Ext.trans ?_ (by assumption)))) rfl rfl (by simpa using hen) (Hb.newY _ _) (newT_ty hai hK) (by omega) ?_
                intro s' wA hC hV
                obtain ⟨hV7, hS7⟩ := hV
                refine WH_p (PS_nilCheck rfl) rfl ?_
                refine WH_p (PS_fieldAddr 24582 Hvad.runUnderlying79 rfl Hvad.sizeOf76 rfl rfl) rfl ?_
                refine WH_store1 Hvad.sizeOf76 rfl (v := slv _ _) rfl hC.h rfl (by rw [hv5.rep.size]; decide) rfl (fun h => by cases h) ?_
                have hb7 := hV7.blk
                obtain ⟨y, hy⟩ : ∃ y, (v.acct A).2.withTT.ttab[((v.acct A).2.withTT.findT (v.acct A).1.1 K).2.toNat]? = some y := ⟨_, List.getElem?_eq_getElem (by have := hfr.2.2.2.2 (by omega); omega)⟩
                obtain ⟨bt, capt, rt, habt, hcapt, hrt, hrst, hrowt, hdt7, hbd7, hil7, hce7⟩ := hV7.openTT (x := y) hy
                replace hil7 : ((v.acct A).2.withTT.findT (v.acct A).1.1 K).2.toNat < (v.acct A).2.withTT.ttab.length := hil7
                replace hdt7 : Ce _ 27018 (.slice (some ⟨bt, 0, none⟩) (v.acct A).2.withTT.ttab.length capt) := hdt7
                refine WH_nil ?_
                refine thn_normal ?_
                refine W_seq ?_
                refine W_region rfl ?_
                refine WO_p (PS_move_ptr rfl) ?_
                refine WO_p (PS_nilCheck rfl) ?_
                refine WO_p (PS_fieldAddr 24583 Hvad.runUnderlying79 rfl Hvad.sizeOf77 rfl rfl) ?_
                refine WO_load (.slice _ _ _) Hvad.isAgg77 rfl (Hb.h (by repeat (first | assumption | exact Hb.newY _ _ | refine Hb.alloc ?_ | refine Hb.drew ?_ | refine Hb.ext (by assumption) ?_ | exact Hb.setSameL (by first | omega | (simp only [size_alloc, size_setB, size_drew]; omega)) | exact Hb.setSame (by assumption) | refine Hb.set (by first | omega | (simp only [size_alloc, size_setB, size_drew]; omega)) ?_ ))) (Ce.h (by first | assumption | exact ⟨rfl⟩)) ?_
                refine WO_p (PS_move_int rfl) ?_
                refine WO_p (PS_move_int rfl) ?_
                refine WO_p (PS_indexS Hvad.runUnderlying77 Hvad.sizeOf21 rfl rfl (by omega) (by omega)) ?_
                refine WO_store1 Hvad.sizeOf21 rfl (v := .int _ _) rfl hrt.h rfl (by omega) rfl ?_
                obtain ⟨hV8, hS8⟩ := hV7.elt_ttab habt hcapt hrt hrst hrowt (x := y) hy ((v.acct A).2.withTT.temps.length : Int) (by unfold I32; omega)
                refine WO_nil ?_
                refine thn_normal ?_
                refine W_seq ?_
                refine W_region rfl ?_
                refine WO_p (PS_move_int rfl) ?_
                refine WO_p (PS_assign_int rfl) ?_
                refine WO_p (PS_assign_bool rfl) ?_
                refine WO_nil ?_
                refine thn_normal ?_
                refine W_ret ?_
                refine bodyQ_ret2 Hvad.results263 rfl rfl (.int _ _) (.bool _) rfl rfl ?_
                first
                | (rw [V.tempOf, if_pos h31, hpk]; exact ⟨rfl, VRet.ext hv hE1⟩)
                | (rw [V.tempOf, if_neg h31, if_pos h38]; exact ⟨rfl, VRet.ext hv hE1⟩)
                | (rw [V.tempOf, if_neg h31, if_neg h38, if_neg (by rw [hok]; decide)]; exact ⟨rfl, ⟨_, _, hv2, VStep.pre hE1 hs2⟩⟩)
                | (rw [V.tempOf, if_neg h31, if_neg h38, if_pos hok, V.tempNew, if_pos h80]; exact ⟨rfl, ⟨_, _, hv5, ((VStep.pre hE1 hsX).trans (VStep.ext hE5))⟩⟩)
                | (rw [V.tempOf, if_neg h31, if_neg h38, if_pos hok, V.tempNew, if_neg h80]; exact ⟨rfl, ⟨_, _, hV8, (((VStep.pre hE1 hsX).trans (VStep.ext hE5)).trans (VStep.pre (by repeat (first | assumption | exact Ext.refl _ | refine Ext.alloc ?_ _ | refine Ext.drew ?_ | refine Ext.setB ?_ (by first | omega | (simp only [size_alloc, size_setB, size_drew]; omega)) _ | refine Ext.trans ?_ (by assumption))) hS7)).trans hS8⟩⟩)
          · have hb14p := hb14.h; simp only [al_ete, al_dfn, Bool.not_eq_true', Bool.not_eq_false', al_ne, Bool.not_not, al_nn] at hb14p
            have h52 : (v.acct A).2.ttab.length = 16384 := by omega
            have hvX : VS w2 C c2 (v.acct A).2.withTT B2 β := by rw [V.withTT, if_pos h52]; exact hv2
            have hsX := hs2
            have hKX := hK2
            have hbX := hvX.blk
            refine W_skip ?_
            refine thn_normal ?_
            refine W_seq ?_
            refine W_region rfl ?_
            refine WO_p (PS_move_ptr rfl) ?_
            refine WO_p (PS_move_int rfl) ?_
            refine WO_loadA _ Hvad.isAgg59 Hvad.sizeOf59 rfl (Hb.h (by repeat (first | assumption | exact Hb.newY _ _ | refine Hb.alloc ?_ | refine Hb.drew ?_ | refine Hb.ext (by assumption) ?_ | exact Hb.setSameL (by first | omega | (simp only [size_alloc, size_setB, size_drew]; omega)) | exact Hb.setSame (by assumption) | refine Hb.set (by first | omega | (simp only [size_alloc, size_setB, size_drew]; omega)) ?_ ))) (by first | omega | assumption | rfl | decide | (simp only [size_ic, Value.cells]; omega) | simp) (Xt.h (by first | assumption | exact Xt.whole rfl rfl | exact Xt.whole rfl (by simp only [size_ic, Value.cells]; omega) | exact ⟨rfl⟩)) ?_
            refine WO_call Hvad.call262 (by rfl) (Ret.mono (findTemp_spec C _ _ _ _ _ K _ hvX hai hK) ?_)
            rintro _ w5 ⟨rfl, hE5⟩
            have hv5 := hvX.ext hE5
            have hb5 := hv5.blk
            have hK5 := Hb.ext hE5 hKX
            have hfr := findT_range (v.acct A).2.withTT (v.acct A).1.1 K
            have hl5 : (v.acct A).2.withTT.temps.length = v.temps.length := by rw [withTT_temps, hat]
            have hdt5 : Ce _ 27017 (.slice (slp _) (v.acct A).2.withTT.temps.length (slc _)) := hv5.rep.temps
            refine WO_p (PS_move_tuple rfl) ?_
            refine WO_p (PS_extract_int rfl rfl) ?_
            refine WO_p (PS_extract_int rfl rfl) ?_
            refine WO_p (PS_assign_int rfl) ?_
            refine WO_p (PS_assign_int rfl) ?_
            refine WO_nil ?_
            refine thn_normal ?_
            refine W_seq ?_
            refine W_seq ?_
            refine W_region rfl ?_
            refine WO_p (PS_move_int rfl) ?_
            refine WO_p (PS_lss rfl rfl) ?_
            refine WO_nil ?_
            refine thn_normal ?_
            refine W_if rfl (fun hb22 => ?_) (fun hb22 => ?_)
            · have hb22p := hb22.h; simp only [al_ete, al_dfn, Bool.not_eq_true', Bool.not_eq_false', al_ne, Bool.not_not, al_nn] at hb22p
              have h80 := hb22p
              refine W_seq ?_
              refine W_region rfl ?_
              refine WO_p (PS_assign_int rfl) ?_
              refine WO_p (PS_assign_bool rfl) ?_
              refine WO_nil ?_
              refine thn_normal ?_
              refine W_ret ?_
              refine thn_ret ?_
              refine bodyQ_ret2 Hvad.results263 rfl rfl (.int _ _) (.bool _) rfl rfl ?_
              first
              | (rw [V.tempOf, if_pos h31, hpk]; exact ⟨rfl, VRet.ext hv hE1⟩)
              | (rw [V.tempOf, if_neg h31, if_pos h38]; exact ⟨rfl, VRet.ext hv hE1⟩)
              | (rw [V.tempOf, if_neg h31, if_neg h38, if_neg (by rw [hok]; decide)]; exact ⟨rfl, ⟨_, _, hv2, VStep.pre hE1 hs2⟩⟩)
              | (rw [V.tempOf, if_neg h31, if_neg h38, if_pos hok, V.tempNew, if_pos h80]; exact ⟨rfl, ⟨_, _, hv5, ((VStep.pre hE1 hsX).trans (VStep.ext hE5))⟩⟩)
              | (rw [V.tempOf, if_neg h31, if_neg h38, if_pos hok, V.tempNew, if_neg h80]; exact ⟨rfl, ⟨_, _, hV8, (((VStep.pre hE1 hsX).trans (VStep.ext hE5)).trans (VStep.pre (by repeat (first | assumption | exact Ext.refl _ | refine Ext.alloc ?_ _ | refine Ext.drew ?_ | refine Ext.setB ?_ (by first | omega | (simp only [size_alloc, size_setB, size_drew]; omega)) _ | refine Ext.trans ?_ (by assumption))) hS7)).trans hS8⟩⟩)
            · have hb22p := hb22.h; simp only [al_ete, al_dfn, Bool.not_eq_true', Bool.not_eq_false', al_ne, Bool.not_not, al_nn] at hb22p
              have h80 := hb22p
              refine W_skip ?_
              refine thn_normal ?_
              refine W_seq ?_
              refine W_region rfl ?_
              refine WO_p (PS_move_ptr rfl) ?_
              refine WO_p (PS_nilCheck rfl) ?_
              refine WO_p (PS_fieldAddr 24582 Hvad.runUnderlying79 rfl Hvad.sizeOf76 rfl rfl) ?_
              refine WO_load (.slice _ _ _) Hvad.isAgg76 rfl (Hb.h (by repeat (first | assumption | exact Hb.newY _ _ | refine Hb.alloc ?_ | refine Hb.drew ?_ | refine Hb.ext (by assumption) ?_ | exact Hb.setSameL (by first | omega | (simp only [size_alloc, size_setB, size_drew]; omega)) | exact Hb.setSame (by assumption) | refine Hb.set (by first | omega | (simp only [size_alloc, size_setB, size_drew]; omega)) ?_ ))) (Ce.h (by first | assumption | exact ⟨rfl⟩)) ?_
              refine WO_p (PS_lenS Hvad.runUnderlying76 rfl) ?_
              refine WO_p (PS_conv_i32n Hvad.runUnderlying3 Hvad.runUnderlying21 rfl (by omega) (by omega)) ?_
              refine WO_p (PS_assign_int rfl) ?_
              refine WO_nil ?_
              refine thn_normal ?_
              refine W_seq ?_
              refine W_drawE [false, false, false, false, false, false, false, false, true, false, false, false, false] hmix (by kernel_rfl) rfl ?_
              refine WH_p (PS_move_ptr rfl) rfl ?_
              refine WH_p (PS_move_ptr rfl) rfl ?_
              refine WH_p (PS_nilCheck rfl) rfl ?_
              refine WH_p (PS_fieldAddr 24582 Hvad.runUnderlying79 rfl Hvad.sizeOf76 rfl rfl) rfl ?_
              refine WH_load (.slice _ _ _) Hvad.isAgg76 rfl (Hb.h (by repeat (first | assumption | exact Hb.newY _ _ | refine Hb.alloc ?_ | refine Hb.drew ?_ | refine Hb.ext (by assumption) ?_ | exact Hb.setSameL (by first | omega | (simp only [size_alloc, size_setB, size_drew]; omega)) | exact Hb.setSame (by assumption) | refine Hb.set (by first | omega | (simp only [size_alloc, size_setB, size_drew]; omega)) ?_ ))) (Ce.h (by first | assumption | exact ⟨rfl⟩)) ?_
              refine WH_p (PS_move_int rfl) rfl ?_
              refine WH_loadA _ Hvad.isAgg59 Hvad.sizeOf59 rfl (Hb.h (by repeat (first | assumption | exact Hb.newY _ _ | refine Hb.alloc ?_ | refine Hb.drew ?_ | refine Hb.ext (by assumption) ?_ | exact Hb.setSameL (by first | omega | (simp only [size_alloc, size_setB, size_drew]; omega)) | exact Hb.setSame (by assumption) | refine Hb.set (by first | omega | (simp only [size_alloc, size_setB, size_drew]; omega)) ?_ ))) (by first | omega | assumption | rfl | decide | (simp only [size_ic, Value.cells]; omega) | simp) (Xt.h (by first | assumption | exact Xt.whole rfl rfl | exact Xt.whole rfl (by simp only [size_ic, Value.cells]; omega) | exact ⟨rfl⟩)) ?_
              refine WH_p (PS_b305_01 rfl rfl hK.1) rfl ?_
              refine WH_buildSlice1 Hvad.runUnderlying76 Hvad.sizeOf305 Hvad.zeroValue305 rfl (by first | omega | assumption | rfl | decide | (simp only [size_ic, Value.cells]; omega) | simp) (by decide) (by decide) (fun _ => (by repeat (first | assumption | exact Ext.refl _ | refine Ext.alloc ?_ _ | refine Ext.drew ?_ | refine Ext.setB ?_ (by first | omega | (simp only [size_alloc, size_setB, size_drew]; omega)) _ | exact Ext.trans (by assumption) (by assumption) | refine Ext.trans ?_ (by assumption)))) ?_
              refine WH_push_temps (hv5.ext (by repeat (first | assumption | exact Ext.refl _ | refine Ext.alloc ?_ _ | refine Ext.drew ?_ | refine Ext.setB ?_ (by first | omega | (simp only [size_alloc, size_setB, size_drew]; omega)) _ | exact Ext.trans (by assumption) (by assumption) | refine Ext.trans ?_ (by assumption)))) rfl rfl (by simpa using hen) (Hb.newY _ _) (newT_ty hai hK) (by omega) ?_
              intro s' wA hC hV
              obtain ⟨hV7, hS7⟩ := hV
              refine WH_p (PS_nilCheck rfl) rfl ?_
              refine WH_p (PS_fieldAddr 24582 Hvad.runUnderlying79 rfl Hvad.sizeOf76 rfl rfl) rfl ?_
              refine WH_store1 Hvad.sizeOf76 rfl (v := slv _ _) rfl hC.h rfl (by rw [hv5.rep.size]; decide) rfl (fun h => by cases h) ?_
              have hb7 := hV7.blk
              obtain ⟨y, hy⟩ : ∃ y, (v.acct A).2.withTT.ttab[((v.acct A).2.withTT.findT (v.acct A).1.1 K).2.toNat]? = some y := ⟨_, List.getElem?_eq_getElem (by have := hfr.2.2.2.2 (by omega); omega)⟩
              obtain ⟨bt, capt, rt, habt, hcapt, hrt, hrst, hrowt, hdt7, hbd7, hil7, hce7⟩ := hV7.openTT (x := y) hy
              replace hil7 : ((v.acct A).2.withTT.findT (v.acct A).1.1 K).2.toNat < (v.acct A).2.withTT.ttab.length := hil7
              replace hdt7 : Ce _ 27018 (.slice (some ⟨bt, 0, none⟩) (v.acct A).2.withTT.ttab.length capt) := hdt7
              refine WH_nil ?_
              refine thn_normal ?_
              refine W_seq ?_
              refine W_region rfl ?_
              refine WO_p (PS_move_ptr rfl) ?_
              refine WO_p (PS_nilCheck rfl) ?_
              refine WO_p (PS_fieldAddr 24583 Hvad.runUnderlying79 rfl Hvad.sizeOf77 rfl rfl) ?_
              refine WO_load (.slice _ _ _) Hvad.isAgg77 rfl (Hb.h (by repeat (first | assumption | exact Hb.newY _ _ | refine Hb.alloc ?_ | refine Hb.drew ?_ | refine Hb.ext (by assumption) ?_ | exact Hb.setSameL (by first | omega | (simp only [size_alloc, size_setB, size_drew]; omega)) | exact Hb.setSame (by assumption) | refine Hb.set (by first | omega | (simp only [size_alloc, size_setB, size_drew]; omega)) ?_ ))) (Ce.h (by first | assumption | exact ⟨rfl⟩)) ?_
              refine WO_p (PS_move_int rfl) ?_
              refine WO_p (PS_move_int rfl) ?_
              refine WO_p (PS_indexS Hvad.runUnderlying77 Hvad.sizeOf21 rfl rfl (by omega) (by omega)) ?_
              refine WO_store1 Hvad.sizeOf21 rfl (v := .int _ _) rfl hrt.h rfl (by omega) rfl ?_
              obtain ⟨hV8, hS8⟩ := hV7.elt_ttab habt hcapt hrt hrst hrowt (x := y) hy ((v.acct A).2.withTT.temps.length : Int) (by unfold I32; omega)
              refine WO_nil ?_
              refine thn_normal ?_
              refine W_seq ?_
              refine W_region rfl ?_
              refine WO_p (PS_move_int rfl) ?_
              refine WO_p (PS_assign_int rfl) ?_
              refine WO_p (PS_assign_bool rfl) ?_
              refine WO_nil ?_
              refine thn_normal ?_
              refine W_ret ?_
              refine bodyQ_ret2 Hvad.results263 rfl rfl (.int _ _) (.bool _) rfl rfl ?_
              first
              | (rw [V.tempOf, if_pos h31, hpk]; exact ⟨rfl, VRet.ext hv hE1⟩)
              | (rw [V.tempOf, if_neg h31, if_pos h38]; exact ⟨rfl, VRet.ext hv hE1⟩)
              | (rw [V.tempOf, if_neg h31, if_neg h38, if_neg (by rw [hok]; decide)]; exact ⟨rfl, ⟨_, _, hv2, VStep.pre hE1 hs2⟩⟩)
              | (rw [V.tempOf, if_neg h31, if_neg h38, if_pos hok, V.tempNew, if_pos h80]; exact ⟨rfl, ⟨_, _, hv5, ((VStep.pre hE1 hsX).trans (VStep.ext hE5))⟩⟩)
              | (rw [V.tempOf, if_neg h31, if_neg h38, if_pos hok, V.tempNew, if_neg h80]; exact ⟨rfl, ⟨_, _, hV8, (((VStep.pre hE1 hsX).trans (VStep.ext hE5)).trans (VStep.pre (by repeat (first | assumption | exact Ext.refl _ | refine Ext.alloc ?_ _ | refine Ext.drew ?_ | refine Ext.setB ?_ (by first | omega | (simp only [size_alloc, size_setB, size_drew]; omega)) _ | refine Ext.trans ?_ (by assumption))) hS7)).trans hS8⟩⟩)
  · have hb3p := hb3.h; simp only [al_ete, al_dfn, Bool.not_eq_true', Bool.not_eq_false', al_ne, Bool.not_not, al_nn] at hb3p
    have h22 := hb3p
    have hpk : v.peekT A K = -1 := by rw [V.peekT, if_neg h22]
    refine W_skip ?_
    refine thn_normal ?_
    refine W_seq ?_
    refine W_seq ?_
    refine W_region rfl ?_
    refine WO_p (PS_move_int rfl) ?_
    refine WO_p (PS_geq rfl rfl) ?_
    refine WO_nil ?_
    refine thn_normal ?_
    refine W_if rfl (fun hb24 => ?_) (fun hb24 => ?_)
    · have hb24p := hb24.h; simp only [al_ete, al_dfn, Bool.not_eq_true', Bool.not_eq_false', al_ne, Bool.not_not, al_nn] at hb24p
      have h31 : 0 ≤ v.peekT A K := by omega
      refine W_seq ?_
      refine W_region rfl ?_
      refine WO_p (PS_move_int rfl) ?_
      refine WO_p (PS_assign_int rfl) ?_
      refine WO_p (PS_assign_bool rfl) ?_
      refine WO_nil ?_
      refine thn_normal ?_
      refine W_ret ?_
      refine thn_ret ?_
      refine bodyQ_ret2 Hvad.results263 rfl rfl (.int _ _) (.bool _) rfl rfl ?_
      first
      | (rw [V.tempOf, if_pos h31, hpk]; exact ⟨rfl, VRet.ext hv hE1⟩)
      | (rw [V.tempOf, if_neg h31, if_pos h38]; exact ⟨rfl, VRet.ext hv hE1⟩)
      | (rw [V.tempOf, if_neg h31, if_neg h38, if_neg (by rw [hok]; decide)]; exact ⟨rfl, ⟨_, _, hv2, VStep.pre hE1 hs2⟩⟩)
      | (rw [V.tempOf, if_neg h31, if_neg h38, if_pos hok, V.tempNew, if_pos h80]; exact ⟨rfl, ⟨_, _, hv5, ((VStep.pre hE1 hsX).trans (VStep.ext hE5))⟩⟩)
      | (rw [V.tempOf, if_neg h31, if_neg h38, if_pos hok, V.tempNew, if_neg h80]; exact ⟨rfl, ⟨_, _, hV8, (((VStep.pre hE1 hsX).trans (VStep.ext hE5)).trans (VStep.pre (by repeat (first | assumption | exact Ext.refl _ | refine Ext.alloc ?_ _ | refine Ext.drew ?_ | refine Ext.setB ?_ (by first | omega | (simp only [size_alloc, size_setB, size_drew]; omega)) _ | refine Ext.trans ?_ (by assumption))) hS7)).trans hS8⟩⟩)
    · have hb24p := hb24.h; simp only [al_ete, al_dfn, Bool.not_eq_true', Bool.not_eq_false', al_ne, Bool.not_not, al_nn] at hb24p
      have h31 : ¬ 0 ≤ v.peekT A K := by omega
      refine W_skip ?_
      refine thn_normal ?_
      refine W_seq ?_
      refine W_seq ?_
      refine W_region rfl ?_
      refine WO_p (PS_move_ptr rfl) ?_
      refine WO_p (PS_nilCheck rfl) ?_
      refine WO_p (PS_fieldAddr 24582 Hvad.runUnderlying79 rfl Hvad.sizeOf76 rfl rfl) ?_
      refine WO_load (.slice _ _ _) Hvad.isAgg76 rfl (Hb.h (by repeat (first | assumption | exact Hb.newY _ _ | refine Hb.alloc ?_ | refine Hb.drew ?_ | refine Hb.ext (by assumption) ?_ | exact Hb.setSameL (by first | omega | (simp only [size_alloc, size_setB, size_drew]; omega)) | exact Hb.setSame (by assumption) | refine Hb.set (by first | omega | (simp only [size_alloc, size_setB, size_drew]; omega)) ?_ ))) (Ce.h (by first | assumption | exact ⟨rfl⟩)) ?_
      refine WO_p (PS_lenS Hvad.runUnderlying76 rfl) ?_
      refine WO_p (PS_geq rfl rfl) ?_
      refine WO_nil ?_
      refine thn_normal ?_
      refine W_if rfl (fun hb26 => ?_) (fun hb26 => ?_)
      · have hb26p := hb26.h; simp only [al_ete, al_dfn, Bool.not_eq_true', Bool.not_eq_false', al_ne, Bool.not_not, al_nn] at hb26p
        have h38 : 12288 ≤ v.temps.length := by omega
        refine W_seq ?_
        refine W_region rfl ?_
        refine WO_p (PS_assign_int rfl) ?_
        refine WO_p (PS_assign_bool rfl) ?_
        refine WO_nil ?_
        refine thn_normal ?_
        refine W_ret ?_
        refine thn_ret ?_
        refine bodyQ_ret2 Hvad.results263 rfl rfl (.int _ _) (.bool _) rfl rfl ?_
        first
        | (rw [V.tempOf, if_pos h31, hpk]; exact ⟨rfl, VRet.ext hv hE1⟩)
        | (rw [V.tempOf, if_neg h31, if_pos h38]; exact ⟨rfl, VRet.ext hv hE1⟩)
        | (rw [V.tempOf, if_neg h31, if_neg h38, if_neg (by rw [hok]; decide)]; exact ⟨rfl, ⟨_, _, hv2, VStep.pre hE1 hs2⟩⟩)
        | (rw [V.tempOf, if_neg h31, if_neg h38, if_pos hok, V.tempNew, if_pos h80]; exact ⟨rfl, ⟨_, _, hv5, ((VStep.pre hE1 hsX).trans (VStep.ext hE5))⟩⟩)
        | (rw [V.tempOf, if_neg h31, if_neg h38, if_pos hok, V.tempNew, if_neg h80]; exact ⟨rfl, ⟨_, _, hV8, (((VStep.pre hE1 hsX).trans (VStep.ext hE5)).trans (VStep.pre (by repeat (first | assumption | exact Ext.refl _ | refine Ext.alloc ?_ _ | refine Ext.drew ?_ | refine Ext.setB ?_ (by first | omega | (simp only [size_alloc, size_setB, size_drew]; omega)) _ | refine Ext.trans ?_ (by assumption))) hS7)).trans hS8⟩⟩)
      · have hb26p := hb26.h; simp only [al_ete, al_dfn, Bool.not_eq_true', Bool.not_eq_false', al_ne, Bool.not_not, al_nn] at hb26p
        have h38 : ¬ 12288 ≤ v.temps.length := by omega
        refine W_skip ?_
        refine thn_normal ?_
        refine W_seq ?_
        refine W_region rfl ?_
        refine WO_p (PS_move_ptr rfl) ?_
        refine WO_loadA _ Hvad.isAgg25 Hvad.sizeOf25 rfl (Hb.h (by repeat (first | assumption | exact Hb.newY _ _ | refine Hb.alloc ?_ | refine Hb.drew ?_ | refine Hb.ext (by assumption) ?_ | exact Hb.setSameL (by first | omega | (simp only [size_alloc, size_setB, size_drew]; omega)) | exact Hb.setSame (by assumption) | refine Hb.set (by first | omega | (simp only [size_alloc, size_setB, size_drew]; omega)) ?_ ))) (by first | omega | assumption | rfl | decide | (simp only [size_ic, Value.cells]; omega) | simp) (Xt.h (by first | assumption | exact Xt.whole rfl rfl | exact Xt.whole rfl (by simp only [size_ic, Value.cells]; omega) | exact ⟨rfl⟩)) ?_
        refine WO_call Hvad.call53 (by rfl) (Ret.mono (acct_spec C c v B β A _ hv1 hA) ?_)
        rintro _ w2 ⟨rfl, c2, B2, hv2, hs2⟩
        have hK2 := hs2.hb hv1 hK1 (by decide)
        have hb2 := hv2.blk
        have hdt2 : Ce c2 27018 (.slice (slp (ttS (v.acct A).2.ttab B2.tt)) (v.acct A).2.ttab.length (slc (ttS (v.acct A).2.ttab B2.tt))) := hv2.rep.ttab
        obtain ⟨hat, hatt⟩ := acct_temps v A
        refine WO_p (PS_move_tuple rfl) ?_
        refine WO_p (PS_extract_int rfl rfl) ?_
        refine WO_p (PS_extract_bool rfl rfl) ?_
        refine WO_p (PS_assign_int rfl) ?_
        refine WO_p (PS_assign_bool rfl) ?_
        refine WO_nil ?_
        refine thn_normal ?_
        refine W_seq ?_
        refine W_seq ?_
        refine W_region rfl ?_
        refine WO_p (PS_move_bool rfl) ?_
        refine WO_p (PS_not rfl) ?_
        refine WO_nil ?_
        refine thn_normal ?_
        refine W_if rfl (fun hb30 => ?_) (fun hb30 => ?_)
        · have hb30p := hb30.h; simp only [al_ete, al_dfn, Bool.not_eq_true', Bool.not_eq_false', al_ne, Bool.not_not, al_nn] at hb30p
          have hok := hb30p
          refine W_seq ?_
          refine W_region rfl ?_
          refine WO_p (PS_assign_int rfl) ?_
          refine WO_p (PS_assign_bool rfl) ?_
          refine WO_nil ?_
          refine thn_normal ?_
          refine W_ret ?_
          refine thn_ret ?_
          refine bodyQ_ret2 Hvad.results263 rfl rfl (.int _ _) (.bool _) rfl rfl ?_
          first
          | (rw [V.tempOf, if_pos h31, hpk]; exact ⟨rfl, VRet.ext hv hE1⟩)
          | (rw [V.tempOf, if_neg h31, if_pos h38]; exact ⟨rfl, VRet.ext hv hE1⟩)
          | (rw [V.tempOf, if_neg h31, if_neg h38, if_neg (by rw [hok]; decide)]; exact ⟨rfl, ⟨_, _, hv2, VStep.pre hE1 hs2⟩⟩)
          | (rw [V.tempOf, if_neg h31, if_neg h38, if_pos hok, V.tempNew, if_pos h80]; exact ⟨rfl, ⟨_, _, hv5, ((VStep.pre hE1 hsX).trans (VStep.ext hE5))⟩⟩)
          | (rw [V.tempOf, if_neg h31, if_neg h38, if_pos hok, V.tempNew, if_neg h80]; exact ⟨rfl, ⟨_, _, hV8, (((VStep.pre hE1 hsX).trans (VStep.ext hE5)).trans (VStep.pre (by repeat (first | assumption | exact Ext.refl _ | refine Ext.alloc ?_ _ | refine Ext.drew ?_ | refine Ext.setB ?_ (by first | omega | (simp only [size_alloc, size_setB, size_drew]; omega)) _ | refine Ext.trans ?_ (by assumption))) hS7)).trans hS8⟩⟩)
        · have hb30p := hb30.h; simp only [al_ete, al_dfn, Bool.not_eq_true', Bool.not_eq_false', al_ne, Bool.not_not, al_nn] at hb30p
          have hok := hb30p
          refine W_skip ?_
          refine thn_normal ?_
          refine W_seq ?_
          refine W_seq ?_
          refine W_region rfl ?_
          refine WO_p (PS_move_ptr rfl) ?_
          refine WO_p (PS_nilCheck rfl) ?_
          refine WO_p (PS_fieldAddr 24583 Hvad.runUnderlying79 rfl Hvad.sizeOf77 rfl rfl) ?_
          refine WO_load (.slice _ _ _) Hvad.isAgg77 rfl (Hb.h (by repeat (first | assumption | exact Hb.newY _ _ | refine Hb.alloc ?_ | refine Hb.drew ?_ | refine Hb.ext (by assumption) ?_ | exact Hb.setSameL (by first | omega | (simp only [size_alloc, size_setB, size_drew]; omega)) | exact Hb.setSame (by assumption) | refine Hb.set (by first | omega | (simp only [size_alloc, size_setB, size_drew]; omega)) ?_ ))) (Ce.h (by first | assumption | exact ⟨rfl⟩)) ?_
          refine WO_p (PS_lenS Hvad.runUnderlying77 rfl) ?_
          refine WO_p (PS_neq rfl rfl) ?_
          refine WO_nil ?_
          refine thn_normal ?_
          refine W_if rfl (fun hb32 => ?_) (fun hb32 => ?_)
          · have hb32p := hb32.h; simp only [al_ete, al_dfn, Bool.not_eq_true', Bool.not_eq_false', al_ne, Bool.not_not, al_nn] at hb32p
            have h52 : ¬ (v.acct A).2.ttab.length = 16384 := by omega
            refine W_seq ?_
            refine W_region rfl ?_
            refine WO_p (PS_move_ptr rfl) ?_
            refine WO_make (z := .int .i32 0) Hvad.underlying77 info21 rfl rfl rfl (by decide) (by decide) (by decide) (by decide) ?_
            refine WO_p (PS_nilCheck rfl) ?_
            refine WO_p (PS_fieldAddr 24583 Hvad.runUnderlying79 rfl Hvad.sizeOf77 rfl rfl) ?_
            have hv3 := hv2.ext (Ext.alloc (Ext.refl w2) (.cells (madeCells (Value.int IntKind.i32 0).cells ((16384 : Int).toNat * Hvad.t21.size)) 21))
            obtain ⟨Z, hZ⟩ : ∃ Z : List Int, Z = List.replicate 16384 0 := ⟨_, rfl⟩
            have hZl : Z.length = 16384 := by rw [hZ, List.length_replicate]
            have hZI : ∀ x ∈ Z, I32 x := by intro x hx; rw [hZ] at hx; rw [(List.mem_replicate.1 hx).2]; unfold I32; omega
            have hmade : madeCells (Value.int IntKind.i32 0).cells ((16384 : Int).toNat * Hvad.t21.size) = ic .i32 Z := by
              rw [hZ]; exact made_ic .i32 16384
            rw [hmade] at hv3 ⊢
            clear hZ hmade
            refine WO_store1 Hvad.sizeOf77 rfl (v := slv (some (w2.heap.size, 16384)) 16384) rfl hv3.blk.h rfl (by rw [hv3.rep.size]; decide) rfl ?_
            have hrow3 : VS _ C _ { (v.acct A).2 with ttab := Z } { B2 with tt := some (w2.heap.size, 16384) } β ∧ VStep w2 _ C c2 _ B2 { B2 with tt := some (w2.heap.size, 16384) } := VS.row_ttab hv2 (w2 := w2.alloc (.cells (ic .i32 Z) 21)) (l := Z) (s := some (w2.heap.size, 16384)) ⟨by omega, ic .i32 Z, Hb.newY _ _, by rw [size_ic]; omega, rowL_ic Z⟩ ((Ext.alloc (Ext.refl w2) _).keepO _) (fun b hb => Or.inr (by obtain ⟨cap, hb⟩ := hb; injection hb with hb; injection hb with hb; omega)) hZI (by omega) (fun e => by rw [show Z = [] from e] at hZl; cases hZl)
            rw [hZl] at hrow3
            obtain ⟨hV3, hS3⟩ := hrow3
            have hK3 := hS3.hb hv2 hK2 (by decide)
            have hb3 := hV3.blk
            have hdt3 := hV3.rep.ttab
            rw [ttS_ne (fun e => by rw [show Z = [] from e] at hZl; cases hZl)] at hdt3
            replace hdt3 : Ce _ 27018 (.slice (some ⟨w2.heap.size, 0, none⟩) Z.length 16384) := hdt3
            refine WO_nil ?_
            refine thn_normal ?_
            refine W_seq ?_
            refine W_region rfl ?_
            refine WO_p (PS_move_ptr rfl) ?_
            refine WO_p (PS_nilCheck rfl) ?_
            refine WO_p (PS_fieldAddr 24583 Hvad.runUnderlying79 rfl Hvad.sizeOf77 rfl rfl) ?_
            refine WO_load (.slice _ _ _) Hvad.isAgg77 rfl (Hb.h (by repeat (first | assumption | exact Hb.newY _ _ | refine Hb.alloc ?_ | refine Hb.drew ?_ | refine Hb.ext (by assumption) ?_ | exact Hb.setSameL (by first | omega | (simp only [size_alloc, size_setB, size_drew]; omega)) | exact Hb.setSame (by assumption) | refine Hb.set (by first | omega | (simp only [size_alloc, size_setB, size_drew]; omega)) ?_ ))) (Ce.h (by first | assumption | exact ⟨rfl⟩)) ?_
            refine WO_p (PS_lenS Hvad.runUnderlying77 rfl) ?_
            refine WO_p (PS_move_int rfl) ?_
            refine WO_nil ?_
            refine thn_normal ?_
            refine W_block ?_
            refine W_loopN (fun m ρ w' => ∃ (i : Nat) (c' : Array Value) (B' : VB) (Z' : List Int), m + i = 16384 ∧ Z'.length = 16384 ∧ (∀ k, k < i → Z'[k]? = some (-1)) ∧ Fr [(0, .pointer (some ⟨C, 2435, none⟩)), (5, .pointer (some ⟨(w.alloc (.cells (Value.agg (ic .u8 A)).cells 25)).heap.size, 0, none⟩)), (8, .int .i32 (v.acct A).1.1), (61, .int .i64 16384), (62, .int .i64 i)] ρ ∧ VS w' C c' { (v.acct A).2 with ttab := Z' } B' β ∧ VStep w2 w' C c2 c' B2 B' ∧ Hb w' (w.alloc (.cells (Value.agg (ic .u8 A)).cells 25)).heap.size (.cells (ic .u64 K) 59 (0, 0))) 16384 ?_ ?_
            · exact ⟨0, _, _, Z, rfl, hZl, fun k hk => absurd hk (by omega), ⟨rfl, rfl, rfl, congrArg (Value.int .i64) (by omega), rfl, trivial⟩, hV3, hS3, hK3⟩
            clear hV3 hS3 hK3 hb3 hdt3 hZI hZl hv3
            clear Z
            intro m ρ w4 hI
            obtain ⟨i, c4, B4, Z, hmi, hZl, hZ1, hF, hv4, hs4, hK4⟩ := hI
            refine W_env _ hF ?_
            have hb4 := hv4.blk
            refine W_seq ?_
            refine W_region rfl ?_
            refine WO_p (PS_lss rfl rfl) ?_
            refine WO_nil ?_
            refine thn_normal ?_
            refine W_seq ?_
            refine W_if rfl (fun hb34 => ?_) (fun hb34 => ?_)
            · have hb34p := hb34.h; simp only [al_ete, al_dfn, Bool.not_eq_true', Bool.not_eq_false', al_ne, Bool.not_not, al_nn] at hb34p
              obtain ⟨y, hy⟩ : ∃ y, Z[i]? = some y := ⟨_, List.getElem?_eq_getElem (by omega)⟩
              obtain ⟨bt, capt, rt, habt, hcapt, hrt, hrst, hrowt, hdt4, hbd4, hil4, hce4⟩ := hv4.openTT (i := i) (x := y) hy
              replace hdt4 : Ce c4 27018 (.slice (some ⟨bt, 0, none⟩) Z.length capt) := hdt4
              refine W_skip ?_
              refine thn_normal ?_
              refine W_seq ?_
              refine W_block ?_
              refine W_seq ?_
              refine W_region rfl ?_
              refine WO_p (PS_move_int rfl) ?_
              refine WO_p (PS_assign_int rfl) ?_
              refine WO_nil ?_
              refine thn_normal ?_
              refine W_region rfl ?_
              refine WO_p (PS_move_ptr rfl) ?_
              refine WO_p (PS_nilCheck rfl) ?_
              refine WO_p (PS_fieldAddr 24583 Hvad.runUnderlying79 rfl Hvad.sizeOf77 rfl rfl) ?_
              refine WO_load (.slice _ _ _) Hvad.isAgg77 rfl (Hb.h (by repeat (first | assumption | exact Hb.newY _ _ | refine Hb.alloc ?_ | refine Hb.drew ?_ | refine Hb.ext (by assumption) ?_ | exact Hb.setSameL (by first | omega | (simp only [size_alloc, size_setB, size_drew]; omega)) | exact Hb.setSame (by assumption) | refine Hb.set (by first | omega | (simp only [size_alloc, size_setB, size_drew]; omega)) ?_ ))) (Ce.h (by first | assumption | exact ⟨rfl⟩)) ?_
              refine WO_p (PS_move_int rfl) ?_
              refine WO_p (PS_indexS Hvad.runUnderlying77 Hvad.sizeOf21 rfl rfl (by omega) (by omega)) ?_
              refine WO_store1 Hvad.sizeOf21 rfl (v := .int _ _) rfl hrt.h rfl (by omega) rfl ?_
              obtain ⟨hV5, hS5⟩ := hv4.elt_ttab habt hcapt hrt hrst hrowt (i := i) (x := y) hy (-1) (by unfold I32; omega)
              have hK5 := hS5.hb hv4 hK4 (by decide)
              refine WO_nil ?_
              refine inBlk_normal ?_
              refine thn_normal ?_
              refine W_region rfl ?_
              refine WO_p (PS_add_i64n rfl rfl (by omega) (by omega)) ?_
              refine WO_p (PS_move_int rfl) ?_
              refine WO_nil ?_
              refine thn_normal ?_
              obtain ⟨m', rfl⟩ : ∃ m', m = m' + 1 := ⟨m - 1, by omega⟩
              refine ⟨m', by omega, i + 1, _, _, Z.set i (-1), by omega, by rw [List.length_set]; exact hZl, ?_, ⟨rfl, rfl, rfl, rfl, congrArg (Value.int .i64) (by omega), trivial⟩, hV5, hs4.trans hS5, hK5⟩
              intro k hk
              rw [List.getElem?_set]
              split
              · first | rfl | (rename_i e; rw [if_pos (by omega)])
              · exact hZ1 k (by omega)
            · have hb34p := hb34.h; simp only [al_ete, al_dfn, Bool.not_eq_true', Bool.not_eq_false', al_ne, Bool.not_not, al_nn] at hb34p
              obtain rfl : m = 0 := by omega
              have hvX : VS w4 C c4 (v.acct A).2.withTT B4 β := by
                rw [V.withTT, if_neg h52]
                have e : Z = List.replicate 16384 (-1) := by
                  refine List.ext_getElem? fun k => ?_
                  by_cases hk : k < 16384
                  · rw [hZ1 k (by omega), List.getElem?_replicate, if_pos hk]
                  · rw [List.getElem?_eq_none (by omega), List.getElem?_eq_none (by rw [List.length_replicate]; omega)]
                rw [← e]; exact hv4
              have hsX := hs2.trans hs4
              have hKX := hK4
              have hbX := hvX.blk
              refine W_exit ?_
              refine thn_exit ?_
              refine thn_exit ?_
              refine inBlk_exit ?_
              refine thn_normal ?_
              refine W_seq ?_
              refine W_region rfl ?_
              refine WO_p (PS_move_ptr rfl) ?_
              refine WO_p (PS_move_int rfl) ?_
              refine WO_loadA _ Hvad.isAgg59 Hvad.sizeOf59 rfl (Hb.h (by repeat (first | assumption | exact Hb.newY _ _ | refine Hb.alloc ?_ | refine Hb.drew ?_ | refine Hb.ext (by assumption) ?_ | exact Hb.setSameL (by first | omega | (simp only [size_alloc, size_setB, size_drew]; omega)) | exact Hb.setSame (by assumption) | refine Hb.set (by first | omega | (simp only [size_alloc, size_setB, size_drew]; omega)) ?_ ))) (by first | omega | assumption | rfl | decide | (simp only [size_ic, Value.cells]; omega) | simp) (Xt.h (by first | assumption | exact Xt.whole rfl rfl | exact Xt.whole rfl (by simp only [size_ic, Value.cells]; omega) | exact ⟨rfl⟩)) ?_
              refine WO_call Hvad.call262 (by rfl) (Ret.mono (findTemp_spec C _ _ _ _ _ K _ hvX hai hK) ?_)
              rintro _ w5 ⟨rfl, hE5⟩
              have hv5 := hvX.ext hE5
              have hb5 := hv5.blk
              have hK5 := Hb.ext hE5 hKX
              have hfr := findT_range (v.acct A).2.withTT (v.acct A).1.1 K
              have hl5 : (v.acct A).2.withTT.temps.length = v.temps.length := by rw [withTT_temps, hat]
              have hdt5 : Ce _ 27017 (.slice (slp _) (v.acct A).2.withTT.temps.length (slc _)) := hv5.rep.temps
              refine WO_p (PS_move_tuple rfl) ?_
              refine WO_p (PS_extract_int rfl rfl) ?_
              refine WO_p (PS_extract_int rfl rfl) ?_
              refine WO_p (PS_assign_int rfl) ?_
              refine WO_p (PS_assign_int rfl) ?_
              refine WO_nil ?_
              refine thn_normal ?_
              refine W_seq ?_
              refine W_seq ?_
              refine W_region rfl ?_
              refine WO_p (PS_move_int rfl) ?_
              refine WO_p (PS_lss rfl rfl) ?_
              refine WO_nil ?_
              refine thn_normal ?_
              refine W_if rfl (fun hb37 => ?_) (fun hb37 => ?_)
              · have hb37p := hb37.h; simp only [al_ete, al_dfn, Bool.not_eq_true', Bool.not_eq_false', al_ne, Bool.not_not, al_nn] at hb37p
                have h80 := hb37p
                refine W_seq ?_
                refine W_region rfl ?_
                refine WO_p (PS_assign_int rfl) ?_
                refine WO_p (PS_assign_bool rfl) ?_
                refine WO_nil ?_
                refine thn_normal ?_
                refine W_ret ?_
                refine thn_ret ?_
                refine bodyQ_ret2 Hvad.results263 rfl rfl (.int _ _) (.bool _) rfl rfl ?_
                first
                | (rw [V.tempOf, if_pos h31, hpk]; exact ⟨rfl, VRet.ext hv hE1⟩)
                | (rw [V.tempOf, if_neg h31, if_pos h38]; exact ⟨rfl, VRet.ext hv hE1⟩)
                | (rw [V.tempOf, if_neg h31, if_neg h38, if_neg (by rw [hok]; decide)]; exact ⟨rfl, ⟨_, _, hv2, VStep.pre hE1 hs2⟩⟩)
                | (rw [V.tempOf, if_neg h31, if_neg h38, if_pos hok, V.tempNew, if_pos h80]; exact ⟨rfl, ⟨_, _, hv5, ((VStep.pre hE1 hsX).trans (VStep.ext hE5))⟩⟩)
                | (rw [V.tempOf, if_neg h31, if_neg h38, if_pos hok, V.tempNew, if_neg h80]; exact ⟨rfl, ⟨_, _, hV8, (((VStep.pre hE1 hsX).trans (VStep.ext hE5)).trans (VStep.pre (by repeat (first | assumption | exact Ext.refl _ | refine Ext.alloc ?_ _ | refine Ext.drew ?_ | refine Ext.setB ?_ (by first | omega | (simp only [size_alloc, size_setB, size_drew]; omega)) _ | refine Ext.trans ?_ (by assumption))) hS7)).trans hS8⟩⟩)
              · have hb37p := hb37.h; simp only [al_ete, al_dfn, Bool.not_eq_true', Bool.not_eq_false', al_ne, Bool.not_not, al_nn] at hb37p
                have h80 := hb37p
                refine W_skip ?_
                refine thn_normal ?_
                refine W_seq ?_
                refine W_region rfl ?_
                refine WO_p (PS_move_ptr rfl) ?_
                refine WO_p (PS_nilCheck rfl) ?_
                refine WO_p (PS_fieldAddr 24582 Hvad.runUnderlying79 rfl Hvad.sizeOf76 rfl rfl) ?_
                refine WO_load (.slice _ _ _) Hvad.isAgg76 rfl (Hb.h (by repeat (first | assumption | exact Hb.newY _ _ | refine Hb.alloc ?_ | refine Hb.drew ?_ | refine Hb.ext (by assumption) ?_ | exact Hb.setSameL (by first | omega | (simp only [size_alloc, size_setB, size_drew]; omega)) | exact Hb.setSame (by assumption) | refine Hb.set (by first | omega | (simp only [size_alloc, size_setB, size_drew]; omega)) ?_ ))) (Ce.h (by first | assumption | exact ⟨rfl⟩)) ?_
                refine WO_p (PS_lenS Hvad.runUnderlying76 rfl) ?_
                refine WO_p (PS_conv_i32n Hvad.runUnderlying3 Hvad.runUnderlying21 rfl (by omega) (by omega)) ?_
                refine WO_p (PS_assign_int rfl) ?_
                refine WO_nil ?_
                refine thn_normal ?_
                refine W_seq ?_
                refine W_drawE [false, false, false, false, false, false, false, false, true, false, false, false, false] hmix (by kernel_rfl) rfl ?_
                refine WH_p (PS_move_ptr rfl) rfl ?_
                refine WH_p (PS_move_ptr rfl) rfl ?_
                refine WH_p (PS_nilCheck rfl) rfl ?_
                refine WH_p (PS_fieldAddr 24582 Hvad.runUnderlying79 rfl Hvad.sizeOf76 rfl rfl) rfl ?_
                refine WH_load (.slice _ _ _) Hvad.isAgg76 rfl (Hb.h (by repeat (first | assumption | exact Hb.newY _ _ | refine Hb.alloc ?_ | refine Hb.drew ?_ | refine Hb.ext (by assumption) ?_ | exact Hb.setSameL (by first | omega | (simp only [size_alloc, size_setB, size_drew]; omega)) | exact Hb.setSame (by assumption) | refine Hb.set (by first | omega | (simp only [size_alloc, size_setB, size_drew]; omega)) ?_ ))) (Ce.h (by first | assumption | exact ⟨rfl⟩)) ?_
                refine WH_p (PS_move_int rfl) rfl ?_
                refine WH_loadA _ Hvad.isAgg59 Hvad.sizeOf59 rfl (Hb.h (by repeat (first | assumption | exact Hb.newY _ _ | refine Hb.alloc ?_ | refine Hb.drew ?_ | refine Hb.ext (by assumption) ?_ | exact Hb.setSameL (by first | omega | (simp only [size_alloc, size_setB, size_drew]; omega)) | exact Hb.setSame (by assumption) | refine Hb.set (by first | omega | (simp only [size_alloc, size_setB, size_drew]; omega)) ?_ ))) (by first | omega | assumption | rfl | decide | (simp only [size_ic, Value.cells]; omega) | simp) (Xt.h (by first | assumption | exact Xt.whole rfl rfl | exact Xt.whole rfl (by simp only [size_ic, Value.cells]; omega) | exact ⟨rfl⟩)) ?_
                refine WH_p (PS_b305_01 rfl rfl hK.1) rfl ?_
                refine WH_buildSlice1 Hvad.runUnderlying76 Hvad.sizeOf305 Hvad.zeroValue305 rfl (by first | omega | assumption | rfl | decide | (simp only [size_ic, Value.cells]; omega) | simp) (by decide) (by decide) (fun _ => (by repeat (first | assumption | exact Ext.refl _ | refine Ext.alloc ?_ _ | refine Ext.drew ?_ | refine Ext.setB ?_ (by first | omega | (simp only [size_alloc, size_setB, size_drew]; omega)) _ | exact Ext.trans (by assumption) (by assumption) | refine Ext.trans ?_ (by assumption)))) ?_
                refine WH_push_temps (hv5.ext (by repeat (first | assumption | exact Ext.refl _ | refine Ext.alloc ?_ _ | refine Ext.drew ?_ | refine Ext.setB ?_ (by first | omega | (simp only [size_alloc, size_setB, size_drew]; omega)) _ | exact Ext.trans (by assumption) (by assumption) | refine Ext.trans ?_ (by assumption)))) rfl rfl (by simpa using hen) (Hb.newY _ _) (newT_ty hai hK) (by omega) ?_
                intro s' wA hC hV
                obtain ⟨hV7, hS7⟩ := hV
                refine WH_p (PS_nilCheck rfl) rfl ?_
                refine WH_p (PS_fieldAddr 24582 Hvad.runUnderlying79 rfl Hvad.sizeOf76 rfl rfl) rfl ?_
                refine WH_store1 Hvad.sizeOf76 rfl (v := slv _ _) rfl hC.h rfl (by rw [hv5.rep.size]; decide) rfl (fun h => by cases h) ?_
                have hb7 := hV7.blk
                obtain ⟨y, hy⟩ : ∃ y, (v.acct A).2.withTT.ttab[((v.acct A).2.withTT.findT (v.acct A).1.1 K).2.toNat]? = some y := ⟨_, List.getElem?_eq_getElem (by have := hfr.2.2.2.2 (by omega); omega)⟩
                obtain ⟨bt, capt, rt, habt, hcapt, hrt, hrst, hrowt, hdt7, hbd7, hil7, hce7⟩ := hV7.openTT (x := y) hy
                replace hil7 : ((v.acct A).2.withTT.findT (v.acct A).1.1 K).2.toNat < (v.acct A).2.withTT.ttab.length := hil7
                replace hdt7 : Ce _ 27018 (.slice (some ⟨bt, 0, none⟩) (v.acct A).2.withTT.ttab.length capt) := hdt7
                refine WH_nil ?_
                refine thn_normal ?_
                refine W_seq ?_
                refine W_region rfl ?_
                refine WO_p (PS_move_ptr rfl) ?_
                refine WO_p (PS_nilCheck rfl) ?_
                refine WO_p (PS_fieldAddr 24583 Hvad.runUnderlying79 rfl Hvad.sizeOf77 rfl rfl) ?_
                refine WO_load (.slice _ _ _) Hvad.isAgg77 rfl (Hb.h (by repeat (first | assumption | exact Hb.newY _ _ | refine Hb.alloc ?_ | refine Hb.drew ?_ | refine Hb.ext (by assumption) ?_ | exact Hb.setSameL (by first | omega | (simp only [size_alloc, size_setB, size_drew]; omega)) | exact Hb.setSame (by assumption) | refine Hb.set (by first | omega | (simp only [size_alloc, size_setB, size_drew]; omega)) ?_ ))) (Ce.h (by first | assumption | exact ⟨rfl⟩)) ?_
                refine WO_p (PS_move_int rfl) ?_
                refine WO_p (PS_move_int rfl) ?_
                refine WO_p (PS_indexS Hvad.runUnderlying77 Hvad.sizeOf21 rfl rfl (by omega) (by omega)) ?_
                refine WO_store1 Hvad.sizeOf21 rfl (v := .int _ _) rfl hrt.h rfl (by omega) rfl ?_
                obtain ⟨hV8, hS8⟩ := hV7.elt_ttab habt hcapt hrt hrst hrowt (x := y) hy ((v.acct A).2.withTT.temps.length : Int) (by unfold I32; omega)
                refine WO_nil ?_
                refine thn_normal ?_
                refine W_seq ?_
                refine W_region rfl ?_
                refine WO_p (PS_move_int rfl) ?_
                refine WO_p (PS_assign_int rfl) ?_
                refine WO_p (PS_assign_bool rfl) ?_
                refine WO_nil ?_
                refine thn_normal ?_
                refine W_ret ?_
                refine bodyQ_ret2 Hvad.results263 rfl rfl (.int _ _) (.bool _) rfl rfl ?_
                first
                | (rw [V.tempOf, if_pos h31, hpk]; exact ⟨rfl, VRet.ext hv hE1⟩)
                | (rw [V.tempOf, if_neg h31, if_pos h38]; exact ⟨rfl, VRet.ext hv hE1⟩)
                | (rw [V.tempOf, if_neg h31, if_neg h38, if_neg (by rw [hok]; decide)]; exact ⟨rfl, ⟨_, _, hv2, VStep.pre hE1 hs2⟩⟩)
                | (rw [V.tempOf, if_neg h31, if_neg h38, if_pos hok, V.tempNew, if_pos h80]; exact ⟨rfl, ⟨_, _, hv5, ((VStep.pre hE1 hsX).trans (VStep.ext hE5))⟩⟩)
                | (rw [V.tempOf, if_neg h31, if_neg h38, if_pos hok, V.tempNew, if_neg h80]; exact ⟨rfl, ⟨_, _, hV8, (((VStep.pre hE1 hsX).trans (VStep.ext hE5)).trans (VStep.pre (by repeat (first | assumption | exact Ext.refl _ | refine Ext.alloc ?_ _ | refine Ext.drew ?_ | refine Ext.setB ?_ (by first | omega | (simp only [size_alloc, size_setB, size_drew]; omega)) _ | refine Ext.trans ?_ (by assumption))) hS7)).trans hS8⟩⟩)
          · have hb32p := hb32.h; simp only [al_ete, al_dfn, Bool.not_eq_true', Bool.not_eq_false', al_ne, Bool.not_not, al_nn] at hb32p
            have h52 : (v.acct A).2.ttab.length = 16384 := by omega
            have hvX : VS w2 C c2 (v.acct A).2.withTT B2 β := by rw [V.withTT, if_pos h52]; exact hv2
            have hsX := hs2
            have hKX := hK2
            have hbX := hvX.blk
            refine W_skip ?_
            refine thn_normal ?_
            refine W_seq ?_
            refine W_region rfl ?_
            refine WO_p (PS_move_ptr rfl) ?_
            refine WO_p (PS_move_int rfl) ?_
            refine WO_loadA _ Hvad.isAgg59 Hvad.sizeOf59 rfl (Hb.h (by repeat (first | assumption | exact Hb.newY _ _ | refine Hb.alloc ?_ | refine Hb.drew ?_ | refine Hb.ext (by assumption) ?_ | exact Hb.setSameL (by first | omega | (simp only [size_alloc, size_setB, size_drew]; omega)) | exact Hb.setSame (by assumption) | refine Hb.set (by first | omega | (simp only [size_alloc, size_setB, size_drew]; omega)) ?_ ))) (by first | omega | assumption | rfl | decide | (simp only [size_ic, Value.cells]; omega) | simp) (Xt.h (by first | assumption | exact Xt.whole rfl rfl | exact Xt.whole rfl (by simp only [size_ic, Value.cells]; omega) | exact ⟨rfl⟩)) ?_
            refine WO_call Hvad.call262 (by rfl) (Ret.mono (findTemp_spec C _ _ _ _ _ K _ hvX hai hK) ?_)
            rintro _ w5 ⟨rfl, hE5⟩
            have hv5 := hvX.ext hE5
            have hb5 := hv5.blk
            have hK5 := Hb.ext hE5 hKX
            have hfr := findT_range (v.acct A).2.withTT (v.acct A).1.1 K
            have hl5 : (v.acct A).2.withTT.temps.length = v.temps.length := by rw [withTT_temps, hat]
            have hdt5 : Ce _ 27017 (.slice (slp _) (v.acct A).2.withTT.temps.length (slc _)) := hv5.rep.temps
            refine WO_p (PS_move_tuple rfl) ?_
            refine WO_p (PS_extract_int rfl rfl) ?_
            refine WO_p (PS_extract_int rfl rfl) ?_
            refine WO_p (PS_assign_int rfl) ?_
            refine WO_p (PS_assign_int rfl) ?_
            refine WO_nil ?_
            refine thn_normal ?_
            refine W_seq ?_
            refine W_seq ?_
            refine W_region rfl ?_
            refine WO_p (PS_move_int rfl) ?_
            refine WO_p (PS_lss rfl rfl) ?_
            refine WO_nil ?_
            refine thn_normal ?_
            refine W_if rfl (fun hb40 => ?_) (fun hb40 => ?_)
            · have hb40p := hb40.h; simp only [al_ete, al_dfn, Bool.not_eq_true', Bool.not_eq_false', al_ne, Bool.not_not, al_nn] at hb40p
              have h80 := hb40p
              refine W_seq ?_
              refine W_region rfl ?_
              refine WO_p (PS_assign_int rfl) ?_
              refine WO_p (PS_assign_bool rfl) ?_
              refine WO_nil ?_
              refine thn_normal ?_
              refine W_ret ?_
              refine thn_ret ?_
              refine bodyQ_ret2 Hvad.results263 rfl rfl (.int _ _) (.bool _) rfl rfl ?_
              first
              | (rw [V.tempOf, if_pos h31, hpk]; exact ⟨rfl, VRet.ext hv hE1⟩)
              | (rw [V.tempOf, if_neg h31, if_pos h38]; exact ⟨rfl, VRet.ext hv hE1⟩)
              | (rw [V.tempOf, if_neg h31, if_neg h38, if_neg (by rw [hok]; decide)]; exact ⟨rfl, ⟨_, _, hv2, VStep.pre hE1 hs2⟩⟩)
              | (rw [V.tempOf, if_neg h31, if_neg h38, if_pos hok, V.tempNew, if_pos h80]; exact ⟨rfl, ⟨_, _, hv5, ((VStep.pre hE1 hsX).trans (VStep.ext hE5))⟩⟩)
              | (rw [V.tempOf, if_neg h31, if_neg h38, if_pos hok, V.tempNew, if_neg h80]; exact ⟨rfl, ⟨_, _, hV8, (((VStep.pre hE1 hsX).trans (VStep.ext hE5)).trans (VStep.pre (by repeat (first | assumption | exact Ext.refl _ | refine Ext.alloc ?_ _ | refine Ext.drew ?_ | refine Ext.setB ?_ (by first | omega | (simp only [size_alloc, size_setB, size_drew]; omega)) _ | refine Ext.trans ?_ (by assumption))) hS7)).trans hS8⟩⟩)
            · have hb40p := hb40.h; simp only [al_ete, al_dfn, Bool.not_eq_true', Bool.not_eq_false', al_ne, Bool.not_not, al_nn] at hb40p
              have h80 := hb40p
              refine W_skip ?_
              refine thn_normal ?_
              refine W_seq ?_
              refine W_region rfl ?_
              refine WO_p (PS_move_ptr rfl) ?_
              refine WO_p (PS_nilCheck rfl) ?_
              refine WO_p (PS_fieldAddr 24582 Hvad.runUnderlying79 rfl Hvad.sizeOf76 rfl rfl) ?_
              refine WO_load (.slice _ _ _) Hvad.isAgg76 rfl (Hb.h (by repeat (first | assumption | exact Hb.newY _ _ | refine Hb.alloc ?_ | refine Hb.drew ?_ | refine Hb.ext (by assumption) ?_ | exact Hb.setSameL (by first | omega | (simp only [size_alloc, size_setB, size_drew]; omega)) | exact Hb.setSame (by assumption) | refine Hb.set (by first | omega | (simp only [size_alloc, size_setB, size_drew]; omega)) ?_ ))) (Ce.h (by first | assumption | exact ⟨rfl⟩)) ?_
              refine WO_p (PS_lenS Hvad.runUnderlying76 rfl) ?_
              refine WO_p (PS_conv_i32n Hvad.runUnderlying3 Hvad.runUnderlying21 rfl (by omega) (by omega)) ?_
              refine WO_p (PS_assign_int rfl) ?_
              refine WO_nil ?_
              refine thn_normal ?_
              refine W_seq ?_
              refine W_drawE [false, false, false, false, false, false, false, false, true, false, false, false, false] hmix (by kernel_rfl) rfl ?_
              refine WH_p (PS_move_ptr rfl) rfl ?_
              refine WH_p (PS_move_ptr rfl) rfl ?_
              refine WH_p (PS_nilCheck rfl) rfl ?_
              refine WH_p (PS_fieldAddr 24582 Hvad.runUnderlying79 rfl Hvad.sizeOf76 rfl rfl) rfl ?_
              refine WH_load (.slice _ _ _) Hvad.isAgg76 rfl (Hb.h (by repeat (first | assumption | exact Hb.newY _ _ | refine Hb.alloc ?_ | refine Hb.drew ?_ | refine Hb.ext (by assumption) ?_ | exact Hb.setSameL (by first | omega | (simp only [size_alloc, size_setB, size_drew]; omega)) | exact Hb.setSame (by assumption) | refine Hb.set (by first | omega | (simp only [size_alloc, size_setB, size_drew]; omega)) ?_ ))) (Ce.h (by first | assumption | exact ⟨rfl⟩)) ?_
              refine WH_p (PS_move_int rfl) rfl ?_
              refine WH_loadA _ Hvad.isAgg59 Hvad.sizeOf59 rfl (Hb.h (by repeat (first | assumption | exact Hb.newY _ _ | refine Hb.alloc ?_ | refine Hb.drew ?_ | refine Hb.ext (by assumption) ?_ | exact Hb.setSameL (by first | omega | (simp only [size_alloc, size_setB, size_drew]; omega)) | exact Hb.setSame (by assumption) | refine Hb.set (by first | omega | (simp only [size_alloc, size_setB, size_drew]; omega)) ?_ ))) (by first | omega | assumption | rfl | decide | (simp only [size_ic, Value.cells]; omega) | simp) (Xt.h (by first | assumption | exact Xt.whole rfl rfl | exact Xt.whole rfl (by simp only [size_ic, Value.cells]; omega) | exact ⟨rfl⟩)) ?_
              refine WH_p (PS_b305_01 rfl rfl hK.1) rfl ?_
              refine WH_buildSlice1 Hvad.runUnderlying76 Hvad.sizeOf305 Hvad.zeroValue305 rfl (by first | omega | assumption | rfl | decide | (simp only [size_ic, Value.cells]; omega) | simp) (by decide) (by decide) (fun _ => (by repeat (first | assumption | exact Ext.refl _ | refine Ext.alloc ?_ _ | refine Ext.drew ?_ | refine Ext.setB ?_ (by first | omega | (simp only [size_alloc, size_setB, size_drew]; omega)) _ | exact Ext.trans (by assumption) (by assumption) | refine Ext.trans ?_ (by assumption)))) ?_
              refine WH_push_temps (hv5.ext (by repeat (first | assumption | exact Ext.refl _ | refine Ext.alloc ?_ _ | refine Ext.drew ?_ | refine Ext.setB ?_ (by first | omega | (simp only [size_alloc, size_setB, size_drew]; omega)) _ | exact Ext.trans (by assumption) (by assumption) | refine Ext.trans ?_ (by assumption)))) rfl rfl (by simpa using hen) (Hb.newY _ _) (newT_ty hai hK) (by omega) ?_
              intro s' wA hC hV
              obtain ⟨hV7, hS7⟩ := hV
              refine WH_p (PS_nilCheck rfl) rfl ?_
              refine WH_p (PS_fieldAddr 24582 Hvad.runUnderlying79 rfl Hvad.sizeOf76 rfl rfl) rfl ?_
              refine WH_store1 Hvad.sizeOf76 rfl (v := slv _ _) rfl hC.h rfl (by rw [hv5.rep.size]; decide) rfl (fun h => by cases h) ?_
              have hb7 := hV7.blk
              obtain ⟨y, hy⟩ : ∃ y, (v.acct A).2.withTT.ttab[((v.acct A).2.withTT.findT (v.acct A).1.1 K).2.toNat]? = some y := ⟨_, List.getElem?_eq_getElem (by have := hfr.2.2.2.2 (by omega); omega)⟩
              obtain ⟨bt, capt, rt, habt, hcapt, hrt, hrst, hrowt, hdt7, hbd7, hil7, hce7⟩ := hV7.openTT (x := y) hy
              replace hil7 : ((v.acct A).2.withTT.findT (v.acct A).1.1 K).2.toNat < (v.acct A).2.withTT.ttab.length := hil7
              replace hdt7 : Ce _ 27018 (.slice (some ⟨bt, 0, none⟩) (v.acct A).2.withTT.ttab.length capt) := hdt7
              refine WH_nil ?_
              refine thn_normal ?_
              refine W_seq ?_
              refine W_region rfl ?_
              refine WO_p (PS_move_ptr rfl) ?_
              refine WO_p (PS_nilCheck rfl) ?_
              refine WO_p (PS_fieldAddr 24583 Hvad.runUnderlying79 rfl Hvad.sizeOf77 rfl rfl) ?_
              refine WO_load (.slice _ _ _) Hvad.isAgg77 rfl (Hb.h (by repeat (first | assumption | exact Hb.newY _ _ | refine Hb.alloc ?_ | refine Hb.drew ?_ | refine Hb.ext (by assumption) ?_ | exact Hb.setSameL (by first | omega | (simp only [size_alloc, size_setB, size_drew]; omega)) | exact Hb.setSame (by assumption) | refine Hb.set (by first | omega | (simp only [size_alloc, size_setB, size_drew]; omega)) ?_ ))) (Ce.h (by first | assumption | exact ⟨rfl⟩)) ?_
              refine WO_p (PS_move_int rfl) ?_
              refine WO_p (PS_move_int rfl) ?_
              refine WO_p (PS_indexS Hvad.runUnderlying77 Hvad.sizeOf21 rfl rfl (by omega) (by omega)) ?_
              refine WO_store1 Hvad.sizeOf21 rfl (v := .int _ _) rfl hrt.h rfl (by omega) rfl ?_
              obtain ⟨hV8, hS8⟩ := hV7.elt_ttab habt hcapt hrt hrst hrowt (x := y) hy ((v.acct A).2.withTT.temps.length : Int) (by unfold I32; omega)
              refine WO_nil ?_
              refine thn_normal ?_
              refine W_seq ?_
              refine W_region rfl ?_
              refine WO_p (PS_move_int rfl) ?_
              refine WO_p (PS_assign_int rfl) ?_
              refine WO_p (PS_assign_bool rfl) ?_
              refine WO_nil ?_
              refine thn_normal ?_
              refine W_ret ?_
              refine bodyQ_ret2 Hvad.results263 rfl rfl (.int _ _) (.bool _) rfl rfl ?_
              first
              | (rw [V.tempOf, if_pos h31, hpk]; exact ⟨rfl, VRet.ext hv hE1⟩)
              | (rw [V.tempOf, if_neg h31, if_pos h38]; exact ⟨rfl, VRet.ext hv hE1⟩)
              | (rw [V.tempOf, if_neg h31, if_neg h38, if_neg (by rw [hok]; decide)]; exact ⟨rfl, ⟨_, _, hv2, VStep.pre hE1 hs2⟩⟩)
              | (rw [V.tempOf, if_neg h31, if_neg h38, if_pos hok, V.tempNew, if_pos h80]; exact ⟨rfl, ⟨_, _, hv5, ((VStep.pre hE1 hsX).trans (VStep.ext hE5))⟩⟩)
              | (rw [V.tempOf, if_neg h31, if_neg h38, if_pos hok, V.tempNew, if_neg h80]; exact ⟨rfl, ⟨_, _, hV8, (((VStep.pre hE1 hsX).trans (VStep.ext hE5)).trans (VStep.pre (by repeat (first | assumption | exact Ext.refl _ | refine Ext.alloc ?_ _ | refine Ext.drew ?_ | refine Ext.setB ?_ (by first | omega | (simp only [size_alloc, size_setB, size_drew]; omega)) _ | refine Ext.trans ?_ (by assumption))) hS7)).trans hS8⟩⟩)

end Go.Proofs.YgvadwGreat
