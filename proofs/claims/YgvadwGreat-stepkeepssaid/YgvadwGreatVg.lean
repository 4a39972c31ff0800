import Derived.Test.YgvadwGreatVf
namespace Go.Proofs.YgvadwGreat
set_option linter.unusedSimpArgs false
set_option linter.unusedVariables false
def V.codeLen (v : V) (A : List Int) : Nat := match v.get A with | some x => x.code.2.1 | none => 0
def V.tload (v : V) (A K : List Int) : List Int := if 0 ≤ v.peekT A K then (match v.temps[(v.peekT A K).toNat]? with | some x => x.val | none => [0, 0, 0, 0]) else [0, 0, 0, 0]
def V.putCode (v : V) (A : List Int) (n : Nat) (s : SV) : Bool × V := if 65536 ≤ v.journal.length ∨ 256 < n then (false, v) else v.setA A (fun a x => ⟨2, a, 0, [0, 0, 0, 0], x.code, false⟩) (fun x => { x with code := s })
def V.putLog (v : V) (x : LogR) : Bool × V := if 65536 ≤ v.journal.length ∨ 2800 ≤ v.logs.length ∨ 4 < x.topics.2.1 ∨ 717280 < x.data.2.1 then (false, v) else (true, { v with journal := v.journal ++ [⟨7, 0, 0, [0, 0, 0, 0], (none, 0, 0), false⟩], logs := v.logs ++ [x] })

set_option maxRecDepth 10000 in
theorem tstore_spec (C : Nat) (c : Array Value) (v : V) (B : VB) (β : Option Nat) (A K : List Int) (n : List Int) (w : World) (hv : VS w C c v B β) (hA : By A 20) (hK : Wd K) (hn : Wd n) : Ret Hvad.prog 208 #[.pointer (some ⟨C, 2435, none⟩), .agg (ic .u8 A), .agg (ic .u64 K), .agg (ic .u64 n)] w fun u w' => u = .bool (v.tstore A K n).1 ∧ VRet w C c B β w' (v.tstore A K n).2 := by
  have hAl := hA.1
  have hKl := hK.1
  have hlj := hv.ty.lj
  refine Ret_of_W Hvad.func208 rfl rfl ?_
  refine W_seq ?_
  refine W_region rfl ?_
  refine WO_box (.agg _) rfl ?_
  refine WO_box (.agg _) rfl ?_
  refine WO_box (.agg _) rfl ?_
  refine WO_p (PS_assign_bool rfl) ?_
  refine WO_nil ?_
  refine thn_normal ?_
  refine W_seq ?_
  refine W_seq ?_
  refine W_region rfl ?_
  refine WO_p (PS_move_ptr rfl) ?_
  refine WO_call Hvad.call73 (by rfl) (Ret.mono (room_spec C c v B β _ (hv.ext (by repeat (first | assumption | exact Ext.refl _ | refine Ext.alloc ?_ _ | refine Ext.drew ?_ | refine Ext.setB ?_ (by first | omega | (simp only [size_alloc, size_setB, size_drew]; omega)) _ | exact Ext.trans (by assumption) (by assumption) | refine Ext.trans ?_ (by assumption))))) ?_)
  rintro _ w1 ⟨rfl, hE1⟩
  have hA1 : Hb w1 w.heap.size (.cells (ic .u8 A) 25 (0, 0)) := Hb.ext hE1 (Hb.alloc (Hb.alloc (Hb.newY _ _)))
  have hK1 : Hb w1 (w.alloc _).heap.size (.cells (ic .u64 K) 59 (0, 0)) := Hb.ext hE1 (Hb.alloc (Hb.newY _ _))
  have hX1 : Hb w1 ((w.alloc _).alloc _).heap.size (.cells (ic .u64 n) 59 (0, 0)) := Hb.ext hE1 (Hb.newY _ _)
  replace hE1 : Ext w w1 := Ext.trans (Ext.alloc (Ext.alloc (Ext.alloc (Ext.refl w) _) _) _) hE1
  have hv1 := hv.ext hE1
  refine WO_p (PS_not rfl) ?_
  refine WO_nil ?_
  refine thn_normal ?_
  refine W_if rfl (fun hb4 => ?_) (fun hb4 => ?_)
  · have hb4p := hb4.h; simp only [al_ete, al_dfn, Bool.not_eq_true', Bool.not_eq_false', al_ne, Bool.not_not, al_nn] at hb4p
    have h11 : 65536 ≤ v.journal.length := by omega
    refine W_seq ?_
    refine W_region rfl ?_
    refine WO_p (PS_assign_bool rfl) ?_
    refine WO_nil ?_
    refine thn_normal ?_
    refine W_ret ?_
    refine thn_ret ?_
    refine bodyQ_ret1 Hvad.results208 rfl (.bool _) rfl ?_
    first
    | (rw [V.tstore, V.setT, if_pos h11]; exact ⟨rfl, VRet.ext hv hE1⟩)
    | (rw [V.tstore, V.setT, if_neg h11, if_neg (by rw [hok]; decide)]; exact ⟨rfl, ⟨_, _, hv2, VStep.pre hE1 hs2⟩⟩)
    | (rw [V.tstore, V.setT, if_neg h11, if_pos hok, hx]; exact ⟨rfl, ⟨_, _, hV7, ((VStep.pre hE1 hs2).trans (VStep.pre (by repeat (first | assumption | exact Ext.refl _ | refine Ext.alloc ?_ _ | refine Ext.drew ?_ | refine Ext.setB ?_ (by first | omega | (simp only [size_alloc, size_setB, size_drew]; omega)) _ | refine Ext.trans ?_ (by assumption))) hS6)).trans (VStep.pre (Ext.drew (Ext.refl _)) hS7)⟩⟩)
  · have hb4p := hb4.h; simp only [al_ete, al_dfn, Bool.not_eq_true', Bool.not_eq_false', al_ne, Bool.not_not, al_nn] at hb4p
    have h11 : ¬ 65536 ≤ v.journal.length := by omega
    refine W_skip ?_
    refine thn_normal ?_
    refine W_seq ?_
    refine W_region rfl ?_
    refine WO_p (PS_move_ptr rfl) ?_
    refine WO_loadA _ Hvad.isAgg25 Hvad.sizeOf25 rfl (Hb.h (by repeat (first | assumption | exact Hb.newY _ _ | refine Hb.alloc ?_ | refine Hb.drew ?_ | refine Hb.ext (by assumption) ?_ | exact Hb.setSameL (by first | omega | (simp only [size_alloc, size_setB, size_drew]; omega)) | exact Hb.setSame (by assumption) | refine Hb.set (by first | omega | (simp only [size_alloc, size_setB, size_drew]; omega)) ?_ ))) (by first | omega | assumption | rfl | decide | (simp only [size_ic, Value.cells]; omega) | simp) (Xt.h (by first | assumption | exact Xt.whole rfl rfl | exact Xt.whole rfl (by simp only [size_ic, Value.cells]; omega) | exact ⟨rfl⟩)) ?_
    refine WO_loadA _ Hvad.isAgg59 Hvad.sizeOf59 rfl (Hb.h (by repeat (first | assumption | exact Hb.newY _ _ | refine Hb.alloc ?_ | refine Hb.drew ?_ | refine Hb.ext (by assumption) ?_ | exact Hb.setSameL (by first | omega | (simp only [size_alloc, size_setB, size_drew]; omega)) | exact Hb.setSame (by assumption) | refine Hb.set (by first | omega | (simp only [size_alloc, size_setB, size_drew]; omega)) ?_ ))) (by first | omega | assumption | rfl | decide | (simp only [size_ic, Value.cells]; omega) | simp) (Xt.h (by first | assumption | exact Xt.whole rfl rfl | exact Xt.whole rfl (by simp only [size_ic, Value.cells]; omega) | exact ⟨rfl⟩)) ?_
    refine WO_call Hvad.call263 (by rfl) (Ret.mono (tempOf_spec C c v B β A K _ hv1 hA hK) ?_)
    rintro _ w2 ⟨rfl, c2, B2, hv2, hs2⟩
    have hb2 := hv2.blk
    have hdj : Ce c2 10629 (.slice (slp B2.j) (v.tempOf A K).2.journal.length (slc B2.j)) := hv2.rep.journal
    have hX2 := hs2.hb hv1 hX1 (by decide)
    refine WO_p (PS_move_tuple rfl) ?_
    refine WO_p (PS_extract_int rfl rfl) ?_
    refine WO_p (PS_extract_bool rfl rfl) ?_
    refine WO_p (PS_assign_int rfl) ?_
    refine WO_p (PS_assign_bool rfl) ?_
    refine WO_nil ?_
    refine thn_normal ?_
    refine W_seq ?_
    refine W_seq ?_
    refine W_region rfl ?_
    refine WO_p (PS_move_bool rfl) ?_
    refine WO_p (PS_not rfl) ?_
    refine WO_nil ?_
    refine thn_normal ?_
    refine W_if rfl (fun hb8 => ?_) (fun hb8 => ?_)
    · have hb8p := hb8.h; simp only [al_ete, al_dfn, Bool.not_eq_true', Bool.not_eq_false', al_ne, Bool.not_not, al_nn] at hb8p
      have hok := hb8p
      refine W_seq ?_
      refine W_region rfl ?_
      refine WO_p (PS_assign_bool rfl) ?_
      refine WO_nil ?_
      refine thn_normal ?_
      refine W_ret ?_
      refine thn_ret ?_
      refine bodyQ_ret1 Hvad.results208 rfl (.bool _) rfl ?_
      first
      | (rw [V.tstore, V.setT, if_pos h11]; exact ⟨rfl, VRet.ext hv hE1⟩)
      | (rw [V.tstore, V.setT, if_neg h11, if_neg (by rw [hok]; decide)]; exact ⟨rfl, ⟨_, _, hv2, VStep.pre hE1 hs2⟩⟩)
      | (rw [V.tstore, V.setT, if_neg h11, if_pos hok, hx]; exact ⟨rfl, ⟨_, _, hV7, ((VStep.pre hE1 hs2).trans (VStep.pre (by repeat (first | assumption | exact Ext.refl _ | refine Ext.alloc ?_ _ | refine Ext.drew ?_ | refine Ext.setB ?_ (by first | omega | (simp only [size_alloc, size_setB, size_drew]; omega)) _ | refine Ext.trans ?_ (by assumption))) hS6)).trans (VStep.pre (Ext.drew (Ext.refl _)) hS7)⟩⟩)
    · have hb8p := hb8.h; simp only [al_ete, al_dfn, Bool.not_eq_true', Bool.not_eq_false', al_ne, Bool.not_not, al_nn] at hb8p
      have hok := hb8p
      obtain ⟨ha0, x, hx, hxA⟩ := tempOf_ok hok
      obtain ⟨b, cap, r, hab, hcap, hr, hrs, hrow, hda, hbd, hil, hty, f0, f1, f2⟩ := hv2.openT hx
      have hlx : x.val.length = 4 := hty.2.2.1
      have hls2 := hv2.ty.lt
      have hai : I32 (v.tempOf A K).1.1 := by unfold I32; omega
      have hjl : (v.tempOf A K).2.journal.length < 65536 := by rw [tempOf_journal]; omega
      have hen : (encE ⟨8, (v.tempOf A K).1.1, 0, x.val, (none, 0, 0), false⟩).toArray.size = 9 := by simp [encE, hlx]
      refine W_skip ?_
      refine thn_normal ?_
      refine W_seq ?_
      refine W_drawE [false, false, false, false, false, false, false, false, false, false, false, false, false, false, false, true, false, false, false, false] hmix (by kernel_rfl) rfl ?_
      refine WH_p (PS_move_ptr rfl) rfl ?_
      refine WH_p (PS_move_ptr rfl) rfl ?_
      refine WH_p (PS_nilCheck rfl) rfl ?_
      refine WH_p (PS_fieldAddr 8194 Hvad.runUnderlying79 rfl Hvad.sizeOf73 rfl rfl) rfl ?_
      refine WH_load (.slice _ _ _) Hvad.isAgg73 rfl (Hb.h (by repeat (first | assumption | exact Hb.newY _ _ | refine Hb.alloc ?_ | refine Hb.drew ?_ | refine Hb.ext (by assumption) ?_ | exact Hb.setSameL (by first | omega | (simp only [size_alloc, size_setB, size_drew]; omega)) | exact Hb.setSame (by assumption) | refine Hb.set (by first | omega | (simp only [size_alloc, size_setB, size_drew]; omega)) ?_ ))) (Ce.h (by first | assumption | exact ⟨rfl⟩)) ?_
      refine WH_p (PS_move_int rfl) rfl ?_
      refine WH_p (PS_move_ptr rfl) rfl ?_
      refine WH_p (PS_nilCheck rfl) rfl ?_
      refine WH_p (PS_fieldAddr 24582 Hvad.runUnderlying79 rfl Hvad.sizeOf76 rfl rfl) rfl ?_
      refine WH_load (.slice _ _ _) Hvad.isAgg76 rfl (Hb.h (by repeat (first | assumption | exact Hb.newY _ _ | refine Hb.alloc ?_ | refine Hb.drew ?_ | refine Hb.ext (by assumption) ?_ | exact Hb.setSameL (by first | omega | (simp only [size_alloc, size_setB, size_drew]; omega)) | exact Hb.setSame (by assumption) | refine Hb.set (by first | omega | (simp only [size_alloc, size_setB, size_drew]; omega)) ?_ ))) (Ce.h (by first | assumption | exact ⟨rfl⟩)) ?_
      refine WH_p (PS_move_int rfl) rfl ?_
      refine WH_p (PS_indexS Hvad.runUnderlying76 Hvad.sizeOf305 rfl rfl (by omega) (by omega)) rfl ?_
      refine WH_p (PS_fieldAddr 5 Hvad.runUnderlying305 rfl Hvad.sizeOf59 rfl rfl) rfl ?_
      refine WH_loadA _ Hvad.isAgg59 Hvad.sizeOf59 rfl (Hb.h (by repeat (first | assumption | exact Hb.newY _ _ | refine Hb.alloc ?_ | refine Hb.drew ?_ | refine Hb.ext (by assumption) ?_ | exact Hb.setSameL (by first | omega | (simp only [size_alloc, size_setB, size_drew]; omega)) | exact Hb.setSame (by assumption) | refine Hb.set (by first | omega | (simp only [size_alloc, size_setB, size_drew]; omega)) ?_ ))) (by first | omega | assumption | rfl | decide | (simp only [size_ic, Value.cells]; omega) | simp) (Xt.h (by first | assumption | exact Xt.whole rfl rfl | exact Xt.whole rfl (by simp only [size_ic, Value.cells]; omega) | exact ⟨rfl⟩)) ?_
      refine WH_p (PS_b173_013 rfl rfl rfl hlx) rfl ?_
      refine WH_buildSlice1 Hvad.runUnderlying73 Hvad.sizeOf173 Hvad.zeroValue173 rfl (by first | omega | assumption | rfl | decide | (simp only [size_ic, Value.cells]; omega) | simp) (by decide) (by decide) (fun _ => (by repeat (first | assumption | exact Ext.refl _ | refine Ext.alloc ?_ _ | refine Ext.drew ?_ | refine Ext.setB ?_ (by first | omega | (simp only [size_alloc, size_setB, size_drew]; omega)) _ | exact Ext.trans (by assumption) (by assumption) | refine Ext.trans ?_ (by assumption)))) ?_
      refine WH_push_journal (hv2.ext (by repeat (first | assumption | exact Ext.refl _ | refine Ext.alloc ?_ _ | refine Ext.drew ?_ | refine Ext.setB ?_ (by first | omega | (simp only [size_alloc, size_setB, size_drew]; omega)) _ | exact Ext.trans (by assumption) (by assumption) | refine Ext.trans ?_ (by assumption)))) rfl rfl (by simpa using hen) (Hb.newY _ _) ⟨⟨by show (0:Int) ≤ 8; decide, by show (8:Int) ≤ 255; decide⟩, hai, ⟨by show (0:Int) ≤ 0; decide, by show (0:Int) ≤ _; decide⟩, hty.2.2⟩ (Or.inl ⟨rfl, rfl⟩) hjl ?_
      intro s' wA hC hV
      obtain ⟨hV6, hS6⟩ := hV
      refine WH_p (PS_nilCheck rfl) rfl ?_
      refine WH_p (PS_fieldAddr 8194 Hvad.runUnderlying79 rfl Hvad.sizeOf73 rfl rfl) rfl ?_
      refine WH_store1 Hvad.sizeOf73 rfl (v := slv _ _) rfl hC.h rfl (by rw [hv2.rep.size]; decide) rfl (fun h => by cases h) ?_
      refine WH_nil ?_
      refine thn_normal ?_
      refine W_seq ?_
      have hX6 := hS6.hb (hv2.ext (by repeat (first | assumption | exact Ext.refl _ | refine Ext.alloc ?_ _ | refine Ext.drew ?_ | refine Ext.setB ?_ (by first | omega | (simp only [size_alloc, size_setB, size_drew]; omega)) _ | refine Ext.trans ?_ (by assumption)))) (Hb.ext (by repeat (first | assumption | exact Ext.refl _ | refine Ext.alloc ?_ _ | refine Ext.drew ?_ | refine Ext.setB ?_ (by first | omega | (simp only [size_alloc, size_setB, size_drew]; omega)) _ | refine Ext.trans ?_ (by assumption))) hX2) (by decide)
      have hnl := hn.1
      clear hr hda hrow hbd f0 f1 f2
      have hb6 := hV6.blk
      obtain ⟨b7, cap7, r7, hab7, hcap7, hr7, hrs7, hrow7, hda7, hbd7, hil7, hty7, g0, g1, g2⟩ := hV6.openT (x := x) hx
      refine W_drawE [false, false, false, false, false, false, false, false, false] hmix (by kernel_rfl) rfl ?_
      refine WH_p (PS_move_ptr rfl) rfl ?_
      refine WH_p (PS_nilCheck rfl) rfl ?_
      refine WH_p (PS_fieldAddr 24582 Hvad.runUnderlying79 rfl Hvad.sizeOf76 rfl rfl) rfl ?_
      refine WH_load (.slice _ _ _) Hvad.isAgg76 rfl (Hb.h (by repeat (first | assumption | exact Hb.newY _ _ | refine Hb.alloc ?_ | refine Hb.drew ?_ | refine Hb.ext (by assumption) ?_ | exact Hb.setSameL (by first | omega | (simp only [size_alloc, size_setB, size_drew]; omega)) | exact Hb.setSame (by assumption) | refine Hb.set (by first | omega | (simp only [size_alloc, size_setB, size_drew]; omega)) ?_ ))) (Ce.h (by first | assumption | exact ⟨rfl⟩)) ?_
      refine WH_p (PS_move_int rfl) rfl ?_
      refine WH_loadA _ Hvad.isAgg59 Hvad.sizeOf59 rfl (Hb.h (by repeat (first | assumption | exact Hb.newY _ _ | refine Hb.alloc ?_ | refine Hb.drew ?_ | refine Hb.ext (by assumption) ?_ | exact Hb.setSameL (by first | omega | (simp only [size_alloc, size_setB, size_drew]; omega)) | exact Hb.setSame (by assumption) | refine Hb.set (by first | omega | (simp only [size_alloc, size_setB, size_drew]; omega)) ?_ ))) (by first | omega | assumption | rfl | decide | (simp only [size_ic, Value.cells]; omega) | simp) (Xt.h (by first | assumption | exact Xt.whole rfl rfl | exact Xt.whole rfl (by simp only [size_ic, Value.cells]; omega) | exact ⟨rfl⟩)) ?_
      refine WH_p (PS_indexS Hvad.runUnderlying76 Hvad.sizeOf305 rfl rfl (by omega) (by omega)) rfl ?_
      refine WH_p (PS_fieldAddr 5 Hvad.runUnderlying305 rfl Hvad.sizeOf59 rfl rfl) rfl ?_
      refine WH_store Hvad.sizeOf59 rfl (v := .agg (ic .u64 n)) rfl hr7.h (by first | omega | assumption | rfl | decide | (simp only [size_ic, Value.cells]; omega) | simp) (by omega) (by first | exact oneCell_ic | assumption) (fun h => by cases h) ?_
      obtain ⟨hV7, hS7⟩ := (hV6.ext (Ext.drew (Ext.refl _))).wT_val hx hab7 hcap7 hr7.drew hrs7 hrow7 n hn
      refine WH_nil ?_
      refine thn_normal ?_
      refine W_seq ?_
      refine W_region rfl ?_
      refine WO_p (PS_assign_bool rfl) ?_
      refine WO_nil ?_
      refine thn_normal ?_
      refine W_ret ?_
      refine bodyQ_ret1 Hvad.results208 rfl (.bool _) rfl ?_
      first
      | (rw [V.tstore, V.setT, if_pos h11]; exact ⟨rfl, VRet.ext hv hE1⟩)
      | (rw [V.tstore, V.setT, if_neg h11, if_neg (by rw [hok]; decide)]; exact ⟨rfl, ⟨_, _, hv2, VStep.pre hE1 hs2⟩⟩)
      | (rw [V.tstore, V.setT, if_neg h11, if_pos hok, hx]; exact ⟨rfl, ⟨_, _, hV7, ((VStep.pre hE1 hs2).trans (VStep.pre (by repeat (first | assumption | exact Ext.refl _ | refine Ext.alloc ?_ _ | refine Ext.drew ?_ | refine Ext.setB ?_ (by first | omega | (simp only [size_alloc, size_setB, size_drew]; omega)) _ | refine Ext.trans ?_ (by assumption))) hS6)).trans (VStep.pre (Ext.drew (Ext.refl _)) hS7)⟩⟩)

set_option maxRecDepth 10000 in
theorem tload_spec (C : Nat) (c : Array Value) (v : V) (B : VB) (β : Option Nat) (A K : List Int) (w : World) (hv : VS w C c v B β) (hA : By A 20) (hK : Wd K) : Ret Hvad.prog 207 #[.pointer (some ⟨C, 2435, none⟩), .agg (ic .u8 A), .agg (ic .u64 K)] w fun u w' => u = .agg (ic .u64 (v.tload A K)) ∧ Ext w w' := by
  have hAl := hA.1
  have hr0 := findA_range v A
  have hKl := hK.1
  have hfi := findA_i32 hv A
  have hfr := findT_range v (v.findA A).1 K
  refine Ret_of_W Hvad.func207 rfl rfl ?_
  refine W_seq ?_
  refine W_region rfl ?_
  refine WO_box (.agg _) rfl ?_
  refine WO_box (.agg _) rfl ?_
  refine WO_alloc Hvad.zeroValue59 ?_
  refine WO_nil ?_
  refine thn_normal ?_
  refine W_seq ?_
  refine W_region rfl ?_
  refine WO_p (PS_move_ptr rfl) ?_
  refine WO_loadA _ Hvad.isAgg25 Hvad.sizeOf25 rfl (Hb.h (by repeat (first | assumption | exact Hb.newY _ _ | refine Hb.alloc ?_ | refine Hb.drew ?_ | refine Hb.ext (by assumption) ?_ | exact Hb.setSameL (by first | omega | (simp only [size_alloc, size_setB, size_drew]; omega)) | exact Hb.setSame (by assumption) | refine Hb.set (by first | omega | (simp only [size_alloc, size_setB, size_drew]; omega)) ?_ ))) (by first | omega | assumption | rfl | decide | (simp only [size_ic, Value.cells]; omega) | simp) (Xt.h (by first | assumption | exact Xt.whole rfl rfl | exact Xt.whole rfl (by simp only [size_ic, Value.cells]; omega) | exact ⟨rfl⟩)) ?_
  refine WO_call Hvad.call75 (by rfl) (Ret.mono (findAcct_spec C c v B β A _ (hv.ext (by repeat (first | assumption | exact Ext.refl _ | refine Ext.alloc ?_ _ | refine Ext.drew ?_ | refine Ext.setB ?_ (by first | omega | (simp only [size_alloc, size_setB, size_drew]; omega)) _ | exact Ext.trans (by assumption) (by assumption) | refine Ext.trans ?_ (by assumption)))) hA) ?_)
  rintro _ w1 ⟨rfl, hE1⟩
  have hv1 := hv.ext (Ext.trans (by repeat (first | assumption | exact Ext.refl _ | refine Ext.alloc ?_ _ | refine Ext.drew ?_ | refine Ext.setB ?_ (by first | omega | (simp only [size_alloc, size_setB, size_drew]; omega)) _ | exact Ext.trans (by assumption) (by assumption) | refine Ext.trans ?_ (by assumption))) hE1)
  have hblk := hv1.blk
  have hsz1 := hE1.1
  simp only [size_alloc] at hsz1
  refine WO_p (PS_move_tuple rfl) ?_
  refine WO_p (PS_extract_int rfl rfl) ?_
  refine WO_p (PS_extract_int rfl rfl) ?_
  refine WO_p (PS_assign_int rfl) ?_
  refine WO_p (PS_assign_int rfl) ?_
  refine WO_nil ?_
  refine thn_normal ?_
  refine W_seq ?_
  refine W_seq ?_
  refine W_region rfl ?_
  refine WO_p (PS_move_int rfl) ?_
  refine WO_p (PS_lss rfl rfl) ?_
  refine WO_nil ?_
  refine thn_normal ?_
  refine W_if rfl (fun hb3 => ?_) (fun hb3 => ?_)
  · have hb3p := hb3.h; simp only [al_ete, al_dfn, Bool.not_eq_true', Bool.not_eq_false', al_ne, Bool.not_not, al_nn] at hb3p
    have hpk : ¬ 0 ≤ v.peekT A K := by rw [V.peekT, if_neg (by omega)]; decide
    refine W_seq ?_
    refine W_region rfl ?_
    refine WO_p (PS_buildI (k := .u64) (zs := [0, 0, 0, 0]) (ps := []) (L := [0, 0, 0, 0]) Hvad.zeroValue59 Hvad.runUnderlying59 Hvad.sizeOf26 rfl rfl rfl rfl) ?_
    first | refine WO_storeW Hvad.sizeOf59 rfl (v := .agg _) rfl (Hb.h (by repeat (first | assumption | exact Hb.newY _ _ | refine Hb.alloc ?_ | refine Hb.drew ?_ | refine Hb.ext (by assumption) ?_ | exact Hb.setSameL (by first | omega | (simp only [size_alloc, size_setB, size_drew]; omega)) | exact Hb.setSame (by assumption) | refine Hb.set (by first | omega | (simp only [size_alloc, size_setB, size_drew]; omega)) ?_ ))) rfl (by first | omega | assumption | rfl | decide | (simp only [size_ic, Value.cells]; omega) | simp) (by first | omega | assumption | rfl | decide | (simp only [size_ic, Value.cells]; omega) | simp) (by first | exact oneCell_ic | assumption) ?_ | refine WO_store Hvad.sizeOf59 rfl (v := .agg _) rfl (Hb.h (by repeat (first | assumption | exact Hb.newY _ _ | refine Hb.alloc ?_ | refine Hb.drew ?_ | refine Hb.ext (by assumption) ?_ | exact Hb.setSameL (by first | omega | (simp only [size_alloc, size_setB, size_drew]; omega)) | exact Hb.setSame (by assumption) | refine Hb.set (by first | omega | (simp only [size_alloc, size_setB, size_drew]; omega)) ?_ ))) (by first | omega | assumption | rfl | decide | (simp only [size_ic, Value.cells]; omega) | simp) (by first | omega | assumption | rfl | decide | (simp only [size_ic, Value.cells]; omega) | simp) (by first | exact oneCell_ic | assumption) ?_
    refine WO_nil ?_
    refine thn_normal ?_
    refine W_ret ?_
    refine thn_ret ?_
    refine bodyQ_cell1 Hvad.results207 rfl Hvad.isAgg59 Hvad.sizeOf59 rfl (Hb.h (by repeat (first | assumption | exact Hb.newY _ _ | refine Hb.alloc ?_ | refine Hb.drew ?_ | refine Hb.ext (by assumption) ?_ | exact Hb.setSameL (by first | omega | (simp only [size_alloc, size_setB, size_drew]; omega)) | exact Hb.setSame (by assumption) | refine Hb.set (by first | omega | (simp only [size_alloc, size_setB, size_drew]; omega)) ?_ ))) (by first | omega | assumption | rfl | decide | (simp only [size_ic, Value.cells]; omega) | simp) ?_
    first
    | (rw [V.tload, if_neg hpk]; exact ⟨rfl, (by repeat (first | assumption | exact Ext.refl _ | refine Ext.alloc ?_ _ | refine Ext.drew ?_ | refine Ext.setB ?_ (by first | omega | (simp only [size_alloc, size_setB, size_drew]; omega)) _ | refine Ext.trans ?_ (by assumption)))⟩)
    | (rw [V.tload, hpk, if_neg h28]; exact ⟨rfl, (by repeat (first | assumption | exact Ext.refl _ | refine Ext.alloc ?_ _ | refine Ext.drew ?_ | refine Ext.setB ?_ (by first | omega | (simp only [size_alloc, size_setB, size_drew]; omega)) _ | refine Ext.trans ?_ (by assumption)))⟩)
    | (rw [V.tload, hpk, if_pos h28, hx]; exact ⟨rfl, (by repeat (first | assumption | exact Ext.refl _ | refine Ext.alloc ?_ _ | refine Ext.drew ?_ | refine Ext.setB ?_ (by first | omega | (simp only [size_alloc, size_setB, size_drew]; omega)) _ | refine Ext.trans ?_ (by assumption)))⟩)
  · have hb3p := hb3.h; simp only [al_ete, al_dfn, Bool.not_eq_true', Bool.not_eq_false', al_ne, Bool.not_not, al_nn] at hb3p
    have hpk : v.peekT A K = (v.findT (v.findA A).1 K).1 := by rw [V.peekT, if_pos (by omega)]
    refine W_skip ?_
    refine thn_normal ?_
    refine W_seq ?_
    refine W_seq ?_
    refine W_region rfl ?_
    refine WO_p (PS_move_ptr rfl) ?_
    refine WO_p (PS_move_int rfl) ?_
    refine WO_loadA _ Hvad.isAgg59 Hvad.sizeOf59 rfl (Hb.h (by repeat (first | assumption | exact Hb.newY _ _ | refine Hb.alloc ?_ | refine Hb.drew ?_ | refine Hb.ext (by assumption) ?_ | exact Hb.setSameL (by first | omega | (simp only [size_alloc, size_setB, size_drew]; omega)) | exact Hb.setSame (by assumption) | refine Hb.set (by first | omega | (simp only [size_alloc, size_setB, size_drew]; omega)) ?_ ))) (by first | omega | assumption | rfl | decide | (simp only [size_ic, Value.cells]; omega) | simp) (Xt.h (by first | assumption | exact Xt.whole rfl rfl | exact Xt.whole rfl (by simp only [size_ic, Value.cells]; omega) | exact ⟨rfl⟩)) ?_
    refine WO_call Hvad.call262 (by rfl) (Ret.mono (findTemp_spec C c v B β _ K _ hv1 hfi hK) ?_)
    rintro _ w2 ⟨rfl, hE2⟩
    have hv2 := hv1.ext hE2
    have hblk2 := hv2.blk
    have hsz2 := hE2.1
    refine WO_p (PS_move_tuple rfl) ?_
    refine WO_p (PS_extract_int rfl rfl) ?_
    refine WO_p (PS_extract_int rfl rfl) ?_
    refine WO_p (PS_assign_int rfl) ?_
    refine WO_p (PS_assign_int rfl) ?_
    refine WO_nil ?_
    refine thn_normal ?_
    refine W_seq ?_
    refine W_region rfl ?_
    refine WO_p (PS_move_int rfl) ?_
    refine WO_p (PS_geq rfl rfl) ?_
    refine WO_nil ?_
    refine thn_normal ?_
    refine W_if rfl (fun hb6 => ?_) (fun hb6 => ?_)
    · have hb6p := hb6.h; simp only [al_ete, al_dfn, Bool.not_eq_true', Bool.not_eq_false', al_ne, Bool.not_not, al_nn] at hb6p
      have h28 := hb6p
      obtain ⟨x, hx, hxa, hxk⟩ := findT_some h28
      obtain ⟨b, cap, r, hab, hcap, hr, hrs, hrow, hda, hbd, hil, hty, f0, f1, f2⟩ := hv2.openT hx
      have hlx : x.val.length = 4 := hty.2.2.1
      refine W_seq ?_
      refine W_region rfl ?_
      refine WO_p (PS_move_ptr rfl) ?_
      refine WO_p (PS_nilCheck rfl) ?_
      refine WO_p (PS_fieldAddr 24582 Hvad.runUnderlying79 rfl Hvad.sizeOf76 rfl rfl) ?_
      refine WO_load (.slice _ _ _) Hvad.isAgg76 rfl (Hb.h (by repeat (first | assumption | exact Hb.newY _ _ | refine Hb.alloc ?_ | refine Hb.drew ?_ | refine Hb.ext (by assumption) ?_ | exact Hb.setSameL (by first | omega | (simp only [size_alloc, size_setB, size_drew]; omega)) | exact Hb.setSame (by assumption) | refine Hb.set (by first | omega | (simp only [size_alloc, size_setB, size_drew]; omega)) ?_ ))) (Ce.h (by first | assumption | exact ⟨rfl⟩)) ?_
      refine WO_p (PS_move_int rfl) ?_
      refine WO_p (PS_indexS Hvad.runUnderlying76 Hvad.sizeOf305 rfl rfl (by omega) (by omega)) ?_
      refine WO_p (PS_fieldAddr 5 Hvad.runUnderlying305 rfl Hvad.sizeOf59 rfl rfl) ?_
      refine WO_loadA _ Hvad.isAgg59 Hvad.sizeOf59 rfl (Hb.h (by repeat (first | assumption | exact Hb.newY _ _ | refine Hb.alloc ?_ | refine Hb.drew ?_ | refine Hb.ext (by assumption) ?_ | exact Hb.setSameL (by first | omega | (simp only [size_alloc, size_setB, size_drew]; omega)) | exact Hb.setSame (by assumption) | refine Hb.set (by first | omega | (simp only [size_alloc, size_setB, size_drew]; omega)) ?_ ))) (by first | omega | assumption | rfl | decide | (simp only [size_ic, Value.cells]; omega) | simp) (Xt.h (by first | assumption | exact Xt.whole rfl rfl | exact Xt.whole rfl (by simp only [size_ic, Value.cells]; omega) | exact ⟨rfl⟩)) ?_
      first | refine WO_storeW Hvad.sizeOf59 rfl (v := .agg _) rfl (Hb.h (by repeat (first | assumption | exact Hb.newY _ _ | refine Hb.alloc ?_ | refine Hb.drew ?_ | refine Hb.ext (by assumption) ?_ | exact Hb.setSameL (by first | omega | (simp only [size_alloc, size_setB, size_drew]; omega)) | exact Hb.setSame (by assumption) | refine Hb.set (by first | omega | (simp only [size_alloc, size_setB, size_drew]; omega)) ?_ ))) rfl (by first | omega | assumption | rfl | decide | (simp only [size_ic, Value.cells]; omega) | simp) (by first | omega | assumption | rfl | decide | (simp only [size_ic, Value.cells]; omega) | simp) (by first | exact oneCell_ic | assumption) ?_ | refine WO_store Hvad.sizeOf59 rfl (v := .agg _) rfl (Hb.h (by repeat (first | assumption | exact Hb.newY _ _ | refine Hb.alloc ?_ | refine Hb.drew ?_ | refine Hb.ext (by assumption) ?_ | exact Hb.setSameL (by first | omega | (simp only [size_alloc, size_setB, size_drew]; omega)) | exact Hb.setSame (by assumption) | refine Hb.set (by first | omega | (simp only [size_alloc, size_setB, size_drew]; omega)) ?_ ))) (by first | omega | assumption | rfl | decide | (simp only [size_ic, Value.cells]; omega) | simp) (by first | omega | assumption | rfl | decide | (simp only [size_ic, Value.cells]; omega) | simp) (by first | exact oneCell_ic | assumption) ?_
      refine WO_nil ?_
      refine thn_normal ?_
      refine W_ret ?_
      refine thn_ret ?_
      refine bodyQ_cell1 Hvad.results207 rfl Hvad.isAgg59 Hvad.sizeOf59 rfl (Hb.h (by repeat (first | assumption | exact Hb.newY _ _ | refine Hb.alloc ?_ | refine Hb.drew ?_ | refine Hb.ext (by assumption) ?_ | exact Hb.setSameL (by first | omega | (simp only [size_alloc, size_setB, size_drew]; omega)) | exact Hb.setSame (by assumption) | refine Hb.set (by first | omega | (simp only [size_alloc, size_setB, size_drew]; omega)) ?_ ))) (by first | omega | assumption | rfl | decide | (simp only [size_ic, Value.cells]; omega) | simp) ?_
      first
      | (rw [V.tload, if_neg hpk]; exact ⟨rfl, (by repeat (first | assumption | exact Ext.refl _ | refine Ext.alloc ?_ _ | refine Ext.drew ?_ | refine Ext.setB ?_ (by first | omega | (simp only [size_alloc, size_setB, size_drew]; omega)) _ | refine Ext.trans ?_ (by assumption)))⟩)
      | (rw [V.tload, hpk, if_neg h28]; exact ⟨rfl, (by repeat (first | assumption | exact Ext.refl _ | refine Ext.alloc ?_ _ | refine Ext.drew ?_ | refine Ext.setB ?_ (by first | omega | (simp only [size_alloc, size_setB, size_drew]; omega)) _ | refine Ext.trans ?_ (by assumption)))⟩)
      | (rw [V.tload, hpk, if_pos h28, hx]; exact ⟨rfl, (by repeat (first | assumption | exact Ext.refl _ | refine Ext.alloc ?_ _ | refine Ext.drew ?_ | refine Ext.setB ?_ (by first | omega | (simp only [size_alloc, size_setB, size_drew]; omega)) _ | refine Ext.trans ?_ (by assumption)))⟩)
    · have hb6p := hb6.h; simp only [al_ete, al_dfn, Bool.not_eq_true', Bool.not_eq_false', al_ne, Bool.not_not, al_nn] at hb6p
      have h28 := hb6p
      refine W_skip ?_
      refine thn_normal ?_
      refine W_seq ?_
      refine W_region rfl ?_
      refine WO_p (PS_buildI (k := .u64) (zs := [0, 0, 0, 0]) (ps := []) (L := [0, 0, 0, 0]) Hvad.zeroValue59 Hvad.runUnderlying59 Hvad.sizeOf26 rfl rfl rfl rfl) ?_
      first | refine WO_storeW Hvad.sizeOf59 rfl (v := .agg _) rfl (Hb.h (by repeat (first | assumption | exact Hb.newY _ _ | refine Hb.alloc ?_ | refine Hb.drew ?_ | refine Hb.ext (by assumption) ?_ | exact Hb.setSameL (by first | omega | (simp only [size_alloc, size_setB, size_drew]; omega)) | exact Hb.setSame (by assumption) | refine Hb.set (by first | omega | (simp only [size_alloc, size_setB, size_drew]; omega)) ?_ ))) rfl (by first | omega | assumption | rfl | decide | (simp only [size_ic, Value.cells]; omega) | simp) (by first | omega | assumption | rfl | decide | (simp only [size_ic, Value.cells]; omega) | simp) (by first | exact oneCell_ic | assumption) ?_ | refine WO_store Hvad.sizeOf59 rfl (v := .agg _) rfl (Hb.h (by repeat (first | assumption | exact Hb.newY _ _ | refine Hb.alloc ?_ | refine Hb.drew ?_ | refine Hb.ext (by assumption) ?_ | exact Hb.setSameL (by first | omega | (simp only [size_alloc, size_setB, size_drew]; omega)) | exact Hb.setSame (by assumption) | refine Hb.set (by first | omega | (simp only [size_alloc, size_setB, size_drew]; omega)) ?_ ))) (by first | omega | assumption | rfl | decide | (simp only [size_ic, Value.cells]; omega) | simp) (by first | omega | assumption | rfl | decide | (simp only [size_ic, Value.cells]; omega) | simp) (by first | exact oneCell_ic | assumption) ?_
      refine WO_nil ?_
      refine thn_normal ?_
      refine W_ret ?_
      refine bodyQ_cell1 Hvad.results207 rfl Hvad.isAgg59 Hvad.sizeOf59 rfl (Hb.h (by repeat (first | assumption | exact Hb.newY _ _ | refine Hb.alloc ?_ | refine Hb.drew ?_ | refine Hb.ext (by assumption) ?_ | exact Hb.setSameL (by first | omega | (simp only [size_alloc, size_setB, size_drew]; omega)) | exact Hb.setSame (by assumption) | refine Hb.set (by first | omega | (simp only [size_alloc, size_setB, size_drew]; omega)) ?_ ))) (by first | omega | assumption | rfl | decide | (simp only [size_ic, Value.cells]; omega) | simp) ?_
      first
      | (rw [V.tload, if_neg hpk]; exact ⟨rfl, (by repeat (first | assumption | exact Ext.refl _ | refine Ext.alloc ?_ _ | refine Ext.drew ?_ | refine Ext.setB ?_ (by first | omega | (simp only [size_alloc, size_setB, size_drew]; omega)) _ | refine Ext.trans ?_ (by assumption)))⟩)
      | (rw [V.tload, hpk, if_neg h28]; exact ⟨rfl, (by repeat (first | assumption | exact Ext.refl _ | refine Ext.alloc ?_ _ | refine Ext.drew ?_ | refine Ext.setB ?_ (by first | omega | (simp only [size_alloc, size_setB, size_drew]; omega)) _ | refine Ext.trans ?_ (by assumption)))⟩)
      | (rw [V.tload, hpk, if_pos h28, hx]; exact ⟨rfl, (by repeat (first | assumption | exact Ext.refl _ | refine Ext.alloc ?_ _ | refine Ext.drew ?_ | refine Ext.setB ?_ (by first | omega | (simp only [size_alloc, size_setB, size_drew]; omega)) _ | refine Ext.trans ?_ (by assumption)))⟩)

set_option maxRecDepth 10000 in
theorem code_spec (C : Nat) (c : Array Value) (v : V) (B : VB) (β : Option Nat) (A : List Int) (w : World) (hv : VS w C c v B β) (hA : By A 20) (hcl : ∀ x ∈ v.accts, x.code.2.1 ≤ 256) : Ret Hvad.prog 41 #[.pointer (some ⟨C, 2435, none⟩), .agg (ic .u8 A)] w fun u w' => Ext w w' ∧ ∃ s' L, u = .slice s'.1 s'.2.1 s'.2.2 ∧ NewB w w' s' L ∧ (∀ x ∈ L, 0 ≤ x ∧ x ≤ 255) ∧ L.length = v.codeLen A := by
  have hAl := hA.1
  have hr0 := findA_range v A
  refine Ret_of_W Hvad.func41 rfl rfl ?_
  refine W_seq ?_
  refine W_region rfl ?_
  refine WO_box (.agg _) rfl ?_
  refine WO_p (PS_assign_slice rfl) ?_
  refine WO_nil ?_
  refine thn_normal ?_
  refine W_seq ?_
  refine W_seq ?_
  refine W_region rfl ?_
  refine WO_p (PS_move_ptr rfl) ?_
  refine WO_loadA _ Hvad.isAgg25 Hvad.sizeOf25 rfl (Hb.h (by repeat (first | assumption | exact Hb.newY _ _ | refine Hb.alloc ?_ | refine Hb.drew ?_ | refine Hb.ext (by assumption) ?_ | exact Hb.setSameL (by first | omega | (simp only [size_alloc, size_setB, size_drew]; omega)) | exact Hb.setSame (by assumption) | refine Hb.set (by first | omega | (simp only [size_alloc, size_setB, size_drew]; omega)) ?_ ))) (by first | omega | assumption | rfl | decide | (simp only [size_ic, Value.cells]; omega) | simp) (Xt.h (by first | assumption | exact Xt.whole rfl rfl | exact Xt.whole rfl (by simp only [size_ic, Value.cells]; omega) | exact ⟨rfl⟩)) ?_
  refine WO_call Hvad.call75 (by rfl) (Ret.mono (findAcct_spec C c v B β A _ (hv.ext (by repeat (first | assumption | exact Ext.refl _ | refine Ext.alloc ?_ _ | refine Ext.drew ?_ | refine Ext.setB ?_ (by first | omega | (simp only [size_alloc, size_setB, size_drew]; omega)) _ | exact Ext.trans (by assumption) (by assumption) | refine Ext.trans ?_ (by assumption)))) hA) ?_)
  rintro _ w1 ⟨rfl, hE1⟩
  have hv1 := hv.ext (Ext.trans (by repeat (first | assumption | exact Ext.refl _ | refine Ext.alloc ?_ _ | refine Ext.drew ?_ | refine Ext.setB ?_ (by first | omega | (simp only [size_alloc, size_setB, size_drew]; omega)) _ | exact Ext.trans (by assumption) (by assumption) | refine Ext.trans ?_ (by assumption))) hE1)
  have hblk := hv1.blk
  have hsz1 := hE1.1
  simp only [size_alloc] at hsz1
  refine WO_p (PS_move_tuple rfl) ?_
  refine WO_p (PS_extract_int rfl rfl) ?_
  refine WO_p (PS_extract_int rfl rfl) ?_
  refine WO_p (PS_assign_int rfl) ?_
  refine WO_p (PS_assign_int rfl) ?_
  refine WO_nil ?_
  refine thn_normal ?_
  refine W_seq ?_
  refine W_region rfl ?_
  refine WO_p (PS_move_int rfl) ?_
  refine WO_p (PS_geq rfl rfl) ?_
  refine WO_nil ?_
  refine thn_normal ?_
  refine W_if rfl (fun hb3 => ?_) (fun hb3 => ?_)
  · have hb3p := hb3.h; simp only [al_ete, al_dfn, Bool.not_eq_true', Bool.not_eq_false', al_ne, Bool.not_not, al_nn] at hb3p
    have h0 : 0 ≤ (v.findA A).1 := by omega
    obtain ⟨x, hx, hxA⟩ := findA_some h0
    obtain ⟨b, cap, r, hab, hcap, hr, hrs, hrow, hda, hbd, hil, hty, f0, f1, f2, f3, f4, f5, f6⟩ := hv1.openA hx
    have hlx : x.bal.length = 4 := hty.2.2.1
    have hg := get_some h0 hx
    obtain ⟨L, hL, hLb⟩ := (hv1.codes x (List.mem_of_getElem? hx)).sc
    refine W_seq ?_
    refine W_region rfl ?_
    refine WO_p (PS_move_ptr rfl) ?_
    refine WO_p (PS_nilCheck rfl) ?_
    refine WO_p (PS_fieldAddr 0 Hvad.runUnderlying79 rfl Hvad.sizeOf70 rfl rfl) ?_
    refine WO_load (.slice _ _ _) Hvad.isAgg70 rfl (Hb.h (by repeat (first | assumption | exact Hb.newY _ _ | refine Hb.alloc ?_ | refine Hb.drew ?_ | refine Hb.ext (by assumption) ?_ | exact Hb.setSameL (by first | omega | (simp only [size_alloc, size_setB, size_drew]; omega)) | exact Hb.setSame (by assumption) | refine Hb.set (by first | omega | (simp only [size_alloc, size_setB, size_drew]; omega)) ?_ ))) (Ce.h (by first | assumption | exact ⟨rfl⟩)) ?_
    refine WO_p (PS_move_int rfl) ?_
    refine WO_p (PS_indexS Hvad.runUnderlying70 Hvad.sizeOf149 rfl rfl (by omega) (by omega)) ?_
    refine WO_p (PS_fieldAddr 25 Hvad.runUnderlying149 rfl Hvad.sizeOf32 rfl rfl) ?_
    refine WO_load (.slice _ _ _) Hvad.isAgg32 rfl (Hb.h (by repeat (first | assumption | exact Hb.newY _ _ | refine Hb.alloc ?_ | refine Hb.drew ?_ | refine Hb.ext (by assumption) ?_ | exact Hb.setSameL (by first | omega | (simp only [size_alloc, size_setB, size_drew]; omega)) | exact Hb.setSame (by assumption) | refine Hb.set (by first | omega | (simp only [size_alloc, size_setB, size_drew]; omega)) ?_ ))) (Ce.h (by first | assumption | exact ⟨rfl⟩)) ?_
    refine WO_call Hvad.call54 (by rfl) (Ret.mono (copied_spec x.code L _ hL (by have := hcl x (List.mem_of_getElem? hx); omega)) ?_)
    rintro _ w2 ⟨hE2, s2, rfl, hn2⟩
    refine WO_p (PS_assign_slice rfl) ?_
    refine WO_nil ?_
    refine thn_normal ?_
    refine W_ret ?_
    refine thn_ret ?_
    refine bodyQ_ret1 Hvad.results41 rfl (.slice _ _ _) rfl ?_
    first
    | exact ⟨(by repeat (first | assumption | exact Ext.refl _ | refine Ext.alloc ?_ _ | refine Ext.drew ?_ | refine Ext.setB ?_ (by first | omega | (simp only [size_alloc, size_setB, size_drew]; omega)) _ | refine Ext.trans ?_ (by assumption))), (none, 0, 0), [], rfl, Or.inl ⟨rfl, rfl⟩, by simp, by rw [V.codeLen, hg]; rfl⟩
    | exact ⟨(by repeat (first | assumption | exact Ext.refl _ | refine Ext.alloc ?_ _ | refine Ext.drew ?_ | refine Ext.setB ?_ (by first | omega | (simp only [size_alloc, size_setB, size_drew]; omega)) _ | refine Ext.trans ?_ (by assumption))), s2, L, rfl, hn2.mono (by omega), hLb, by rw [V.codeLen, hg]; show L.length = x.code.2.1; have := hL.1; omega⟩
  · have hb3p := hb3.h; simp only [al_ete, al_dfn, Bool.not_eq_true', Bool.not_eq_false', al_ne, Bool.not_not, al_nn] at hb3p
    have h0 : ¬ 0 ≤ (v.findA A).1 := by omega
    have hg := get_none h0
    refine W_skip ?_
    refine thn_normal ?_
    refine W_seq ?_
    refine W_region rfl ?_
    refine WO_p (PS_assign_slice rfl) ?_
    refine WO_nil ?_
    refine thn_normal ?_
    refine W_ret ?_
    refine bodyQ_ret1 Hvad.results41 rfl (.slice _ _ _) rfl ?_
    first
    | exact ⟨(by repeat (first | assumption | exact Ext.refl _ | refine Ext.alloc ?_ _ | refine Ext.drew ?_ | refine Ext.setB ?_ (by first | omega | (simp only [size_alloc, size_setB, size_drew]; omega)) _ | refine Ext.trans ?_ (by assumption))), (none, 0, 0), [], rfl, Or.inl ⟨rfl, rfl⟩, by simp, by rw [V.codeLen, hg]; rfl⟩
    | exact ⟨(by repeat (first | assumption | exact Ext.refl _ | refine Ext.alloc ?_ _ | refine Ext.drew ?_ | refine Ext.setB ?_ (by first | omega | (simp only [size_alloc, size_setB, size_drew]; omega)) _ | refine Ext.trans ?_ (by assumption))), s2, L, rfl, hn2.mono (by omega), hLb, by rw [V.codeLen, hg]; show L.length = x.code.2.1; have := hL.1; omega⟩

set_option maxRecDepth 10000 in
theorem empty_spec (b o : Nat) (r : Array Value) (x : Acct) (w : World) (hr : Hb w b (.cells r 149 (0, 0))) (f1 : Ce r (o + 20) (.int .u64 x.nonce)) (f2 : Xt r (o + 21) (o + 21 + 4) (ic .u64 x.bal)) (f3 : Ce r (o + 25) (.slice x.code.1 x.code.2.1 x.code.2.2)) (hb : Wd x.bal) (hbd : o + 29 ≤ r.size) : Ret Hvad.prog 261 #[.pointer (some ⟨b, o, none⟩)] w fun u w' => Ext w w' ∧ ∃ q, u = .bool q := by
  have hlx := hb.1
  refine Ret_of_W Hvad.func261 rfl rfl ?_
  refine W_seq ?_
  refine W_region rfl ?_
  refine WO_p (PS_assign_bool rfl) ?_
  refine WO_nil ?_
  refine thn_normal ?_
  refine W_seq ?_
  refine W_region rfl ?_
  refine WO_p (PS_move_ptr rfl) ?_
  refine WO_p (PS_nilCheck rfl) ?_
  refine WO_p (PS_fieldAddr 20 Hvad.runUnderlying149 rfl Hvad.sizeOf26 rfl rfl) ?_
  refine WO_load (.int _ _) Hvad.isAgg26 rfl (Hb.h (by repeat (first | assumption | exact Hb.newY _ _ | refine Hb.alloc ?_ | refine Hb.drew ?_ | refine Hb.ext (by assumption) ?_ | exact Hb.setSameL (by first | omega | (simp only [size_alloc, size_setB, size_drew]; omega)) | exact Hb.setSame (by assumption) | refine Hb.set (by first | omega | (simp only [size_alloc, size_setB, size_drew]; omega)) ?_ ))) (Ce.h (by first | assumption | exact ⟨rfl⟩)) ?_
  refine WO_p (PS_eql rfl rfl) ?_
  refine WO_p (PS_move_bool rfl) ?_
  refine WO_if (t := 8) rfl (fun hb2 => ?_) (fun hb2 => ?_)
  · have hb2p := hb2.h; simp only [al_ete, al_dfn, Bool.not_eq_true', Bool.not_eq_false', al_ne, Bool.not_not, al_nn] at hb2p
    refine WO_guardT rfl rfl hb2.h ?_
    refine WO_p (PS_move_ptr rfl) ?_
    refine WO_guardT rfl rfl hb2.h ?_
    refine WO_p (PS_nilCheck rfl) ?_
    refine WO_guardT rfl rfl hb2.h ?_
    refine WO_p (PS_fieldAddr 21 Hvad.runUnderlying149 rfl Hvad.sizeOf59 rfl rfl) ?_
    refine WO_guardT rfl rfl hb2.h ?_
    refine WO_loadA _ Hvad.isAgg59 Hvad.sizeOf59 rfl (Hb.h (by repeat (first | assumption | exact Hb.newY _ _ | refine Hb.alloc ?_ | refine Hb.drew ?_ | refine Hb.ext (by assumption) ?_ | exact Hb.setSameL (by first | omega | (simp only [size_alloc, size_setB, size_drew]; omega)) | exact Hb.setSame (by assumption) | refine Hb.set (by first | omega | (simp only [size_alloc, size_setB, size_drew]; omega)) ?_ ))) (by first | omega | assumption | rfl | decide | (simp only [size_ic, Value.cells]; omega) | simp) (Xt.h (by first | assumption | exact Xt.whole rfl rfl | exact Xt.whole rfl (by simp only [size_ic, Value.cells]; omega) | exact ⟨rfl⟩)) ?_
    refine WO_guardT rfl rfl hb2.h ?_
    refine WO_call Hvad.call131 (by rfl) (Ret.mono (isZero_spec x.bal _ hb) ?_)
    rintro _ w1 ⟨rfl, hE1⟩
    refine WO_p (PS_pickT rfl hb2.h rfl) ?_
    refine WO_p (PS_move_bool rfl) ?_
    refine WO_if (t := 15) rfl (fun hb5 => ?_) (fun hb5 => ?_)
    · have hb5p := hb5.h; simp only [al_ete, al_dfn, Bool.not_eq_true', Bool.not_eq_false', al_ne, Bool.not_not, al_nn] at hb5p
      refine WO_guardT rfl rfl hb5.h ?_
      refine WO_p (PS_move_ptr rfl) ?_
      refine WO_guardT rfl rfl hb5.h ?_
      refine WO_p (PS_nilCheck rfl) ?_
      refine WO_guardT rfl rfl hb5.h ?_
      refine WO_p (PS_fieldAddr 25 Hvad.runUnderlying149 rfl Hvad.sizeOf32 rfl rfl) ?_
      refine WO_guardT rfl rfl hb5.h ?_
      refine WO_load (.slice _ _ _) Hvad.isAgg32 rfl (Hb.h (by repeat (first | assumption | exact Hb.newY _ _ | refine Hb.alloc ?_ | refine Hb.drew ?_ | refine Hb.ext (by assumption) ?_ | exact Hb.setSameL (by first | omega | (simp only [size_alloc, size_setB, size_drew]; omega)) | exact Hb.setSame (by assumption) | refine Hb.set (by first | omega | (simp only [size_alloc, size_setB, size_drew]; omega)) ?_ ))) (Ce.h (by first | assumption | exact ⟨rfl⟩)) ?_
      refine WO_guardT rfl rfl hb5.h ?_
      refine WO_p (PS_lenS Hvad.runUnderlying32 rfl) ?_
      refine WO_guardT rfl rfl hb5.h ?_
      refine WO_p (PS_eql rfl rfl) ?_
      refine WO_p (PS_pickT rfl hb5.h rfl) ?_
      refine WO_p (PS_assign_bool rfl) ?_
      refine WO_nil ?_
      refine thn_normal ?_
      refine W_ret ?_
      refine bodyQ_ret1 Hvad.results261 rfl (.bool _) rfl ?_
      exact ⟨(by repeat (first | assumption | exact Ext.refl _ | refine Ext.alloc ?_ _ | refine Ext.drew ?_ | refine Ext.setB ?_ (by first | omega | (simp only [size_alloc, size_setB, size_drew]; omega)) _ | refine Ext.trans ?_ (by assumption))), _, rfl⟩
    · have hb5p := hb5.h; simp only [al_ete, al_dfn, Bool.not_eq_true', Bool.not_eq_false', al_ne, Bool.not_not, al_nn] at hb5p
      refine WO_guardF rfl rfl hb5.h ?_
      refine WO_guardF rfl rfl hb5.h ?_
      refine WO_guardF rfl rfl hb5.h ?_
      refine WO_guardF rfl rfl hb5.h ?_
      refine WO_guardF rfl rfl hb5.h ?_
      refine WO_guardF rfl rfl hb5.h ?_
      refine WO_p (PS_pickF rfl hb5.h rfl) ?_
      refine WO_p (PS_assign_bool rfl) ?_
      refine WO_nil ?_
      refine thn_normal ?_
      refine W_ret ?_
      refine bodyQ_ret1 Hvad.results261 rfl (.bool _) rfl ?_
      exact ⟨(by repeat (first | assumption | exact Ext.refl _ | refine Ext.alloc ?_ _ | refine Ext.drew ?_ | refine Ext.setB ?_ (by first | omega | (simp only [size_alloc, size_setB, size_drew]; omega)) _ | refine Ext.trans ?_ (by assumption))), _, rfl⟩
  · have hb2p := hb2.h; simp only [al_ete, al_dfn, Bool.not_eq_true', Bool.not_eq_false', al_ne, Bool.not_not, al_nn] at hb2p
    refine WO_guardF rfl rfl hb2.h ?_
    refine WO_guardF rfl rfl hb2.h ?_
    refine WO_guardF rfl rfl hb2.h ?_
    refine WO_guardF rfl rfl hb2.h ?_
    refine WO_guardF rfl rfl hb2.h ?_
    refine WO_p (PS_pickF rfl hb2.h rfl) ?_
    refine WO_p (PS_move_bool rfl) ?_
    refine WO_guardF rfl rfl rfl ?_
    refine WO_guardF rfl rfl rfl ?_
    refine WO_guardF rfl rfl rfl ?_
    refine WO_guardF rfl rfl rfl ?_
    refine WO_guardF rfl rfl rfl ?_
    refine WO_guardF rfl rfl rfl ?_
    refine WO_p (PS_pickF rfl rfl rfl) ?_
    refine WO_p (PS_assign_bool rfl) ?_
    refine WO_nil ?_
    refine thn_normal ?_
    refine W_ret ?_
    refine bodyQ_ret1 Hvad.results261 rfl (.bool _) rfl ?_
    exact ⟨(by repeat (first | assumption | exact Ext.refl _ | refine Ext.alloc ?_ _ | refine Ext.drew ?_ | refine Ext.setB ?_ (by first | omega | (simp only [size_alloc, size_setB, size_drew]; omega)) _ | refine Ext.trans ?_ (by assumption))), _, rfl⟩

set_option maxRecDepth 10000 in
theorem isEmpty_spec (C : Nat) (c : Array Value) (v : V) (B : VB) (β : Option Nat) (A : List Int) (w : World) (hv : VS w C c v B β) (hA : By A 20) : Ret Hvad.prog 191 #[.pointer (some ⟨C, 2435, none⟩), .agg (ic .u8 A)] w fun u w' => Ext w w' ∧ ∃ q, u = .bool q := by
  have hAl := hA.1
  have hr0 := findA_range v A
  refine Ret_of_W Hvad.func191 rfl rfl ?_
  refine W_seq ?_
  refine W_region rfl ?_
  refine WO_box (.agg _) rfl ?_
  refine WO_p (PS_assign_bool rfl) ?_
  refine WO_nil ?_
  refine thn_normal ?_
  refine W_seq ?_
  refine W_region rfl ?_
  refine WO_p (PS_move_ptr rfl) ?_
  refine WO_loadA _ Hvad.isAgg25 Hvad.sizeOf25 rfl (Hb.h (by repeat (first | assumption | exact Hb.newY _ _ | refine Hb.alloc ?_ | refine Hb.drew ?_ | refine Hb.ext (by assumption) ?_ | exact Hb.setSameL (by first | omega | (simp only [size_alloc, size_setB, size_drew]; omega)) | exact Hb.setSame (by assumption) | refine Hb.set (by first | omega | (simp only [size_alloc, size_setB, size_drew]; omega)) ?_ ))) (by first | omega | assumption | rfl | decide | (simp only [size_ic, Value.cells]; omega) | simp) (Xt.h (by first | assumption | exact Xt.whole rfl rfl | exact Xt.whole rfl (by simp only [size_ic, Value.cells]; omega) | exact ⟨rfl⟩)) ?_
  refine WO_call Hvad.call75 (by rfl) (Ret.mono (findAcct_spec C c v B β A _ (hv.ext (by repeat (first | assumption | exact Ext.refl _ | refine Ext.alloc ?_ _ | refine Ext.drew ?_ | refine Ext.setB ?_ (by first | omega | (simp only [size_alloc, size_setB, size_drew]; omega)) _ | exact Ext.trans (by assumption) (by assumption) | refine Ext.trans ?_ (by assumption)))) hA) ?_)
  rintro _ w1 ⟨rfl, hE1⟩
  have hv1 := hv.ext (Ext.trans (by repeat (first | assumption | exact Ext.refl _ | refine Ext.alloc ?_ _ | refine Ext.drew ?_ | refine Ext.setB ?_ (by first | omega | (simp only [size_alloc, size_setB, size_drew]; omega)) _ | exact Ext.trans (by assumption) (by assumption) | refine Ext.trans ?_ (by assumption))) hE1)
  have hblk := hv1.blk
  have hsz1 := hE1.1
  simp only [size_alloc] at hsz1
  refine WO_p (PS_move_tuple rfl) ?_
  refine WO_p (PS_extract_int rfl rfl) ?_
  refine WO_p (PS_extract_int rfl rfl) ?_
  refine WO_p (PS_assign_int rfl) ?_
  refine WO_p (PS_assign_int rfl) ?_
  refine WO_nil ?_
  refine thn_normal ?_
  refine W_seq ?_
  refine W_region rfl ?_
  refine WO_p (PS_move_int rfl) ?_
  refine WO_p (PS_lss rfl rfl) ?_
  refine WO_p (PS_move_bool rfl) ?_
  refine WO_if (t := 15) rfl (fun hb3 => ?_) (fun hb3 => ?_)
  · have hb3p := hb3.h; simp only [al_ete, al_dfn, Bool.not_eq_true', Bool.not_eq_false', al_ne, Bool.not_not, al_nn] at hb3p
    have h0 : ¬ 0 ≤ (v.findA A).1 := by omega
    have hg := get_none h0
    refine WO_guardF rfl rfl hb3.h ?_
    refine WO_guardF rfl rfl hb3.h ?_
    refine WO_guardF rfl rfl hb3.h ?_
    refine WO_guardF rfl rfl hb3.h ?_
    refine WO_guardF rfl rfl hb3.h ?_
    refine WO_guardF rfl rfl hb3.h ?_
    refine WO_guardF rfl rfl hb3.h ?_
    refine WO_p (PS_pickT rfl hb3.h rfl) ?_
    refine WO_p (PS_assign_bool rfl) ?_
    refine WO_nil ?_
    refine thn_normal ?_
    refine W_ret ?_
    refine bodyQ_ret1 Hvad.results191 rfl (.bool _) rfl ?_
    exact ⟨(by repeat (first | assumption | exact Ext.refl _ | refine Ext.alloc ?_ _ | refine Ext.drew ?_ | refine Ext.setB ?_ (by first | omega | (simp only [size_alloc, size_setB, size_drew]; omega)) _ | refine Ext.trans ?_ (by assumption))), _, rfl⟩
  · have hb3p := hb3.h; simp only [al_ete, al_dfn, Bool.not_eq_true', Bool.not_eq_false', al_ne, Bool.not_not, al_nn] at hb3p
    have h0 : 0 ≤ (v.findA A).1 := by omega
    obtain ⟨x, hx, hxA⟩ := findA_some h0
    obtain ⟨b, cap, r, hab, hcap, hr, hrs, hrow, hda, hbd, hil, hty, f0, f1, f2, f3, f4, f5, f6⟩ := hv1.openA hx
    have hlx : x.bal.length = 4 := hty.2.2.1
    have hg := get_some h0 hx
    refine WO_guardT rfl rfl hb3.h ?_
    refine WO_p (PS_move_ptr rfl) ?_
    refine WO_guardT rfl rfl hb3.h ?_
    refine WO_p (PS_nilCheck rfl) ?_
    refine WO_guardT rfl rfl hb3.h ?_
    refine WO_p (PS_fieldAddr 0 Hvad.runUnderlying79 rfl Hvad.sizeOf70 rfl rfl) ?_
    refine WO_guardT rfl rfl hb3.h ?_
    refine WO_load (.slice _ _ _) Hvad.isAgg70 rfl (Hb.h (by repeat (first | assumption | exact Hb.newY _ _ | refine Hb.alloc ?_ | refine Hb.drew ?_ | refine Hb.ext (by assumption) ?_ | exact Hb.setSameL (by first | omega | (simp only [size_alloc, size_setB, size_drew]; omega)) | exact Hb.setSame (by assumption) | refine Hb.set (by first | omega | (simp only [size_alloc, size_setB, size_drew]; omega)) ?_ ))) (Ce.h (by first | assumption | exact ⟨rfl⟩)) ?_
    refine WO_guardT rfl rfl hb3.h ?_
    refine WO_p (PS_move_int rfl) ?_
    refine WO_guardT rfl rfl hb3.h ?_
    refine WO_p (PS_indexS Hvad.runUnderlying70 Hvad.sizeOf149 rfl rfl (by omega) (by omega)) ?_
    refine WO_guardT rfl rfl hb3.h ?_
    refine WO_call Hvad.call261 (by rfl) (Ret.mono (empty_spec b _ r x _ hr f1 f2 f3 hty.2.2 hbd) ?_)
    rintro _ w2 ⟨hE2, q, rfl⟩
    refine WO_p (PS_pickF rfl hb3.h rfl) ?_
    refine WO_p (PS_assign_bool rfl) ?_
    refine WO_nil ?_
    refine thn_normal ?_
    refine W_ret ?_
    refine bodyQ_ret1 Hvad.results191 rfl (.bool _) rfl ?_
    exact ⟨(by repeat (first | assumption | exact Ext.refl _ | refine Ext.alloc ?_ _ | refine Ext.drew ?_ | refine Ext.setB ?_ (by first | omega | (simp only [size_alloc, size_setB, size_drew]; omega)) _ | refine Ext.trans ?_ (by assumption))), _, rfl⟩

end Go.Proofs.YgvadwGreat
