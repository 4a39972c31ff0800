import Derived.Test.YgvadwGreatZa
import Derived.Test.YgvadwGreatOi
import Derived.Test.YgvadwGreatOj
namespace Go.Proofs.YgvadwGreat
set_option linter.unusedSimpArgs false
set_option linter.unusedVariables false
theorem WO_gen5 {P : Program} {ops : Array Oper} {Q : Post} {os : List Oper} {ρ : Nat → Value} {w : World} (h : ∀ w', w' = w → WO P ops Q os ρ w') : WO P ops Q os ρ w := h w rfl
/-! the vault while a transaction opens -/
structure OpG (y : V) (nj na ns : Nat) (S : Int) : Prop where
  vi : VInv y
  j : y.journal.length ≤ nj
  a : y.accts.length ≤ na
  s : y.slots.length ≤ ns
  l : y.logs.length = 0
  t : y.temps.length = 0
  nm : y.nmarks = 0
  now : WNow y S 0
structure Stp (v y : V) : Prop where
  en : ∀ X, v.entered X → y.entered X
  bal : ∀ X, y.bal X = v.bal X
theorem Stp.refl (v : V) : Stp v v := ⟨fun _ h => h, fun _ => rfl⟩
theorem Stp.trans {v y z : V} (h : Stp v y) (h' : Stp y z) : Stp v z := ⟨fun X hX => h'.en X (h.en X hX), fun X => (h'.bal X).trans (h.bal X)⟩
theorem OpG.mono {y : V} {nj na ns nj' na' ns' : Nat} {S : Int} (h : OpG y nj na ns S) (h1 : nj ≤ nj') (h2 : na ≤ na') (h3 : ns ≤ ns') : OpG y nj' na' ns' S :=
  { h with j := Nat.le_trans h.j h1, a := Nat.le_trans h.a h2, s := Nat.le_trans h.s h3 }
theorem OpG.setA {y y' : V} {A : List Int} {g : Acct → Acct} {a nj na ns : Nat} {S S' : Int} (h : OpG y nj na ns S) (hc : SetA y A g a y') (hs : sumW y'.sc.bals = S') : OpG y' (nj + 1) (na + a) ns S' where
  vi := hc.go.inv
  j := by have := hc.nj; have := h.j; omega
  a := by have := hc.go.a; have := h.a; omega
  s := by rw [hc.slots]; exact h.s
  l := by rw [hc.logs]; exact h.l
  t := by rw [hc.temps]; exact h.t
  nm := by rw [hc.go.nm]; exact h.nm
  now := ⟨hs, by
    have h1 := h.now.clr
    rw [hc.vals, hc.orig]
    show _ ≤ y'.ref
    rw [hc.ref]; exact h1, by
    have h1 := h.now.gas
    show y'.ref ≤ _
    rw [hc.ref]; exact h1⟩
theorem OpG.warm {y : V} {A : List Int} {nj na ns : Nat} {S : Int} (h : OpG y nj na ns S) (hj : nj < 65000) (ha : y.entered A ∨ na < 2560) :
    ∃ a, a ≤ 1 ∧ (y.entered A → a = 0) ∧ OpG (y.warmT A).2 (nj + 1) (na + a) ns S ∧ (y.warmT A).2.entered A ∧ Stp y (y.warmT A).2 := by
  unfold V.warmT
  split
  · rename_i hw
    exact ⟨0, by omega, fun _ => rfl, h.mono (by omega) (by omega) (by omega), warm_ent h.vi hw, Stp.refl y⟩
  · obtain ⟨h1, a, h2⟩ := warmA_go h.vi (A := A) (by rcases ha with h3 | h3; exact Or.inl h3; exact Or.inr (by have := h.a; omega)) (by have := h.j; omega)
    have hb := h2.bals rfl
    exact ⟨a, h2.a1, h2.a0, h.setA h2 (by rw [hb.2]; exact h.now.sum), h2.ent, h2.go.ent, hb.1⟩
theorem get_congr {v y : V} (hv : VInv v) (hy : VInv y) (h : y.accts = v.accts) (A : List Int) : y.get A = v.get A := by
  cases hg : v.get A with
  | some x =>
    obtain ⟨i, hi, hx⟩ := (get_iff hv).1 hg
    exact (get_iff hy).2 ⟨i, by rw [h]; exact hi, hx⟩
  | none =>
    rw [get_none_iff hv] at hg
    rw [get_none_iff hy]
    intro he
    apply hg
    obtain ⟨x, hx, hxa⟩ := he
    exact ⟨x, by rw [← h]; exact hx, hxa⟩
theorem OpG.warmS {y : V} {A K : List Int} {nj na ns : Nat} {S : Int} (h : OpG y nj na ns S) (hj : nj < 65000) (hA : y.entered A) (hs : ns < 2560) :
    OpG (y.warmS A K).2 (nj + 1) na (ns + 1) S ∧ Stp y (y.warmS A K).2 := by
  obtain ⟨h1, b, h2⟩ := warmS_go h.vi (A := A) (K := K) hA (Or.inr (by have := h.s; omega)) (by have := h.j; omega)
  have hb1 := h2.b1
  have hcl := h2.clr
  refine ⟨⟨h2.go.inv, by have := h2.nj; have := h.j; omega, by rw [h2.accts]; exact h.a, by have := h2.go.s; have := h.s; omega, by have := h2.go.l; have := h.l; omega, by have := h2.go.t; have := h.t; omega, by rw [h2.go.nm]; exact h.nm, ⟨?_, ?_, ?_⟩⟩, h2.go.ent, fun X => ?_⟩
  · show sumW ((y.warmS A K).2.accts.map (·.bal)) = S
    rw [h2.accts]; exact h.now.sum
  · have h3 := h.now.clr
    show 4800 * cleared _ _ ≤ (y.warmS A K).2.ref
    rw [h2.ref]
    have e : cleared (y.warmS A K).2.sc.vals (y.warmS A K).2.origs = cleared y.sc.vals y.origs := by
      have : ∀ x : Int, cleared (y.warmS A K).2.sc.vals (y.warmS A K).2.origs + x = cleared y.sc.vals y.origs + x → cleared (y.warmS A K).2.sc.vals (y.warmS A K).2.origs = cleared y.sc.vals y.origs := fun x hx => by omega
      exact this _ hcl
    rw [e]; exact h3
  · have h3 := h.now.gas
    show (y.warmS A K).2.ref ≤ _
    rw [h2.ref]; exact h3
  · unfold V.bal; rw [get_congr h.vi h2.go.inv h2.accts]

set_option maxRecDepth 10000 in
theorem spacious_spec (C : Nat) (c : Array Value) (v : V) (B : VB) (m : Mc) (w : World) (hM : MS w C c v B m) (hmt : m.mtop = 0) (htp : m.top = -1) (ha : v.accts.length ≤ 8) (hs : v.slots.length ≤ 128) (hj : v.journal.length = 0) (hn : v.nmarks = 0) : Ret Hvad.prog 28 #[.pointer (some ⟨C, 0, none⟩)] w fun u w' => u = .bool true ∧ Ext w w' := by
  have hblk := hM.vs.blk
  have hCl := hblk.lt
  have hcs := hM.sz
  have hc_s := hM.rep.s
  have hc_mt := hM.rep.mtop
  rw [hmt] at hc_mt
  have hc_tp := hM.rep.top
  rw [htp] at hc_tp
  refine Ret_of_W Hvad.func28 rfl rfl ?_
  refine W_seq ?_
  refine W_region rfl ?_
  refine WO_p (PS_assign_bool rfl) ?_
  refine WO_nil ?_
  refine thn_normal ?_
  refine W_seq ?_
  refine W_region rfl ?_
  refine WO_p (PS_move_ptr rfl) ?_
  refine WO_p (PS_nilCheck rfl) ?_
  refine WO_p (PS_fieldAddr 0 Hvad.runUnderlying69 rfl Hvad.sizeOf53 rfl rfl) ?_
  refine WO_load (.pointer _) Hvad.isAgg53 rfl (Hb.h (by repeat (first | assumption | exact Hb.newY _ _ | refine Hb.alloc ?_ | refine Hb.drew ?_ | refine Hb.ext (by assumption) ?_ | exact Hb.setSameL (by first | omega | (simp only [size_alloc, size_setB, size_drew]; omega)) | exact Hb.setSame (by assumption) | refine Hb.set (by first | omega | (simp only [size_alloc, size_setB, size_drew]; omega)) ?_ ))) (Ce.h (by first | assumption | exact ⟨rfl⟩)) ?_
  refine WO_call Hvad.call29 (by rfl) (Ret.mono (sizes_spec C c v B (bb m) _ (VS.ext hM.vs (by repeat (first | assumption | exact Ext.refl _ | refine Ext.alloc ?_ _ | refine Ext.drew ?_ | refine Ext.setB ?_ (by first | omega | (simp only [size_alloc, size_setB, size_drew]; omega)) _ | exact Ext.trans (by assumption) (by assumption) | refine Ext.trans ?_ (by assumption))))) ?_)
  rintro _ w29_0 ⟨rfl, hE29_0⟩
  have hz29_0 := hE29_0.1
  try simp only [size_alloc, size_setB, size_drew] at hz29_0
  refine WO_p (PS_move_tuple rfl) ?_
  refine WO_p (PS_extract_int rfl rfl) ?_
  refine WO_p (PS_extract_int rfl rfl) ?_
  refine WO_p (PS_extract_int rfl rfl) ?_
  refine WO_p (PS_extract_int rfl rfl) ?_
  refine WO_p (PS_assign_int rfl) ?_
  refine WO_p (PS_assign_int rfl) ?_
  refine WO_p (PS_assign_int rfl) ?_
  refine WO_p (PS_assign_int rfl) ?_
  refine WO_nil ?_
  refine thn_normal ?_
  refine W_seq ?_
  refine W_region rfl ?_
  refine WO_p (PS_move_int rfl) ?_
  refine WO_p (PS_leq rfl rfl) ?_
  refine WO_p (PS_move_bool rfl) ?_
  refine WO_if (t := 19) rfl (fun hb3 => ?_) (fun hb3 => ?_)
  · have hb3p := hb3.h; try simp only [al_ete, al_dfn, Bool.not_eq_true', Bool.not_eq_false', al_ne, Bool.not_not, al_nn] at hb3p
    refine WO_guardT rfl rfl hb3.h ?_
    refine WO_p (PS_move_int rfl) ?_
    refine WO_guardT rfl rfl hb3.h ?_
    refine WO_p (PS_leq rfl rfl) ?_
    refine WO_p (PS_pickT rfl hb3.h rfl) ?_
    refine WO_p (PS_move_bool rfl) ?_
    refine WO_if (t := 23) rfl (fun hb5 => ?_) (fun hb5 => ?_)
    · have hb5p := hb5.h; try simp only [al_ete, al_dfn, Bool.not_eq_true', Bool.not_eq_false', al_ne, Bool.not_not, al_nn] at hb5p
      refine WO_guardT rfl rfl hb5.h ?_
      refine WO_p (PS_move_int rfl) ?_
      refine WO_guardT rfl rfl hb5.h ?_
      refine WO_p (PS_leq rfl rfl) ?_
      refine WO_p (PS_pickT rfl hb5.h rfl) ?_
      refine WO_p (PS_move_bool rfl) ?_
      refine WO_if (t := 27) rfl (fun hb7 => ?_) (fun hb7 => ?_)
      · have hb7p := hb7.h; try simp only [al_ete, al_dfn, Bool.not_eq_true', Bool.not_eq_false', al_ne, Bool.not_not, al_nn] at hb7p
        refine WO_guardT rfl rfl hb7.h ?_
        refine WO_p (PS_move_int rfl) ?_
        refine WO_guardT rfl rfl hb7.h ?_
        refine WO_p (PS_geq rfl rfl) ?_
        refine WO_p (PS_pickT rfl hb7.h rfl) ?_
        refine WO_p (PS_move_bool rfl) ?_
        refine WO_if (t := 31) rfl (fun hb9 => ?_) (fun hb9 => ?_)
        · have hb9p := hb9.h; try simp only [al_ete, al_dfn, Bool.not_eq_true', Bool.not_eq_false', al_ne, Bool.not_not, al_nn] at hb9p
          refine WO_guardT rfl rfl hb9.h ?_
          refine WO_p (PS_move_int rfl) ?_
          refine WO_guardT rfl rfl hb9.h ?_
          refine WO_p (PS_lss rfl rfl) ?_
          refine WO_p (PS_pickT rfl hb9.h rfl) ?_
          refine WO_p (PS_move_bool rfl) ?_
          refine WO_if (t := 35) rfl (fun hb11 => ?_) (fun hb11 => ?_)
          · have hb11p := hb11.h; try simp only [al_ete, al_dfn, Bool.not_eq_true', Bool.not_eq_false', al_ne, Bool.not_not, al_nn] at hb11p
            refine WO_guardT rfl rfl hb11.h ?_
            refine WO_p (PS_move_ptr rfl) ?_
            refine WO_guardT rfl rfl hb11.h ?_
            refine WO_p (PS_nilCheck rfl) ?_
            refine WO_guardT rfl rfl hb11.h ?_
            refine WO_p (PS_fieldAddr 1 Hvad.runUnderlying69 rfl Hvad.sizeOf57 rfl rfl) ?_
            refine WO_guardT rfl rfl hb11.h ?_
            refine WO_p (PS_fieldAddr 9 Hvad.runUnderlying57 rfl Hvad.sizeOf5 rfl rfl) ?_
            refine WO_guardT rfl rfl hb11.h ?_
            refine WO_load (.int _ _) Hvad.isAgg5 rfl (Hb.h (by repeat (first | assumption | exact Hb.newY _ _ | refine Hb.alloc ?_ | refine Hb.drew ?_ | refine Hb.ext (by assumption) ?_ | exact Hb.setSameL (by first | omega | (simp only [size_alloc, size_setB, size_drew]; omega)) | exact Hb.setSame (by assumption) | refine Hb.set (by first | omega | (simp only [size_alloc, size_setB, size_drew]; omega)) ?_ ))) (Ce.h (by first | assumption | exact ⟨rfl⟩)) ?_
            refine WO_guardT rfl rfl hb11.h ?_
            refine WO_p (PS_eql rfl rfl) ?_
            refine WO_p (PS_pickT rfl hb11.h rfl) ?_
            refine WO_p (PS_move_bool rfl) ?_
            refine WO_if (t := 43) rfl (fun hb13 => ?_) (fun hb13 => ?_)
            · have hb13p := hb13.h; try simp only [al_ete, al_dfn, Bool.not_eq_true', Bool.not_eq_false', al_ne, Bool.not_not, al_nn] at hb13p
              refine WO_guardT rfl rfl hb13.h ?_
              refine WO_p (PS_move_ptr rfl) ?_
              refine WO_guardT rfl rfl hb13.h ?_
              refine WO_p (PS_nilCheck rfl) ?_
              refine WO_guardT rfl rfl hb13.h ?_
              refine WO_p (PS_fieldAddr 2258 Hvad.runUnderlying69 rfl Hvad.sizeOf67 rfl rfl) ?_
              refine WO_guardT rfl rfl hb13.h ?_
              refine WO_load (.int _ _) Hvad.isAgg67 rfl (Hb.h (by repeat (first | assumption | exact Hb.newY _ _ | refine Hb.alloc ?_ | refine Hb.drew ?_ | refine Hb.ext (by assumption) ?_ | exact Hb.setSameL (by first | omega | (simp only [size_alloc, size_setB, size_drew]; omega)) | exact Hb.setSame (by assumption) | refine Hb.set (by first | omega | (simp only [size_alloc, size_setB, size_drew]; omega)) ?_ ))) (Ce.h (by first | assumption | exact ⟨rfl⟩)) ?_
              refine WO_guardT rfl rfl hb13.h ?_
              refine WO_p (PS_eql rfl rfl) ?_
              refine WO_p (PS_pickT rfl hb13.h rfl) ?_
              refine WO_p (PS_assign_bool rfl) ?_
              refine WO_nil ?_
              refine thn_normal ?_
              refine W_ret ?_
              refine bodyQ_ret1 Hvad.results28 rfl (.bool _) rfl ?_
              exact ⟨congrArg Value.bool (by first | rfl | (simp; omega) | simp), (by repeat (first | assumption | exact Ext.refl _ | refine Ext.alloc ?_ _ | refine Ext.drew ?_ | refine Ext.setB ?_ (by first | omega | (simp only [size_alloc, size_setB, size_drew]; omega)) _ | refine Ext.trans ?_ (by assumption)))⟩
            · have hb13p := hb13.h; try simp only [al_ete, al_dfn, Bool.not_eq_true', Bool.not_eq_false', al_ne, Bool.not_not, al_nn] at hb13p
              (exfalso; first | omega | (simp at hb13p; done) | cases hb13p) --END
          · have hb11p := hb11.h; try simp only [al_ete, al_dfn, Bool.not_eq_true', Bool.not_eq_false', al_ne, Bool.not_not, al_nn] at hb11p
            (exfalso; first | omega | (simp at hb11p; done) | cases hb11p) --END
        · have hb9p := hb9.h; try simp only [al_ete, al_dfn, Bool.not_eq_true', Bool.not_eq_false', al_ne, Bool.not_not, al_nn] at hb9p
          (exfalso; first | omega | (simp at hb9p; done) | cases hb9p) --END
      · have hb7p := hb7.h; try simp only [al_ete, al_dfn, Bool.not_eq_true', Bool.not_eq_false', al_ne, Bool.not_not, al_nn] at hb7p
        (exfalso; first | omega | (simp at hb7p; done) | cases hb7p) --END
    · have hb5p := hb5.h; try simp only [al_ete, al_dfn, Bool.not_eq_true', Bool.not_eq_false', al_ne, Bool.not_not, al_nn] at hb5p
      (exfalso; first | omega | (simp at hb5p; done) | cases hb5p) --END
  · have hb3p := hb3.h; try simp only [al_ete, al_dfn, Bool.not_eq_true', Bool.not_eq_false', al_ne, Bool.not_not, al_nn] at hb3p
    (exfalso; first | omega | (simp at hb3p; done) | cases hb3p) --END

set_option maxRecDepth 10000 in
theorem warm_spec (C : Nat) (c : Array Value) (v : V) (B : VB) (β : Option Nat) (A : List Int) (w : World) (hv : VS w C c v B β) (hA : By A 20) : Ret Hvad.prog 37 #[.pointer (some ⟨C, 2435, none⟩), .agg (ic .u8 A)] w fun u w' => VRet w C c B β w' (v.warmT A).2 := by
  have hAl := hA.1
  have hCl := hv.blk.lt
  refine Ret_of_W Hvad.func37 rfl rfl ?_
  refine W_seq ?_
  refine W_region rfl ?_
  refine WO_boxG (.agg _) rfl ?_
  intro b3 v3 hg3 hE3 hH3 hl3
  try simp only [size_alloc, size_setB, size_drew] at hg3
  have hzz3 := hE3.1
  try simp only [size_alloc, size_setB, size_drew] at hzz3
  refine WO_nil ?_
  refine thn_normal ?_
  refine W_seq ?_
  refine W_region rfl ?_
  refine WO_p (PS_move_ptr rfl) ?_
  refine WO_loadA _ Hvad.isAgg25 Hvad.sizeOf25 rfl (Hb.h (by repeat (first | assumption | exact Hb.newY _ _ | refine Hb.alloc ?_ | refine Hb.drew ?_ | refine Hb.ext (by assumption) ?_ | exact Hb.setSameL (by first | omega | (simp only [size_alloc, size_setB, size_drew]; omega)) | exact Hb.setSame (by assumption) | refine Hb.set (by first | omega | (simp only [size_alloc, size_setB, size_drew]; omega)) ?_ ))) (by first | omega | assumption | rfl | decide | exact Nat.le_refl _ | (simp only [size_ic, Value.cells]; omega) | simp) (Xt.h (by first | assumption | exact Xt.whole rfl rfl | exact Xt.whole rfl (by simp only [size_ic, Value.cells]; omega) | exact ⟨rfl⟩)) ?_
  refine WO_call Hvad.call76 (by rfl) (Ret.mono (isWarmA_spec C c v B β A _ (VS.ext hv (by repeat (first | assumption | exact Ext.refl _ | refine Ext.alloc ?_ _ | refine Ext.drew ?_ | refine Ext.setB ?_ (by first | omega | (simp only [size_alloc, size_setB, size_drew]; omega)) _ | exact Ext.trans (by assumption) (by assumption) | refine Ext.trans ?_ (by assumption)))) hA) ?_)
  rintro _ w76_0 ⟨rfl, hE76_0⟩
  have hz76_0 := hE76_0.1
  try simp only [size_alloc, size_setB, size_drew] at hz76_0
  refine WO_p (PS_not rfl) ?_
  refine WO_nil ?_
  refine thn_normal ?_
  refine W_if rfl (fun hb4 => ?_) (fun hb4 => ?_)
  · have hb4p := hb4.h; try simp only [al_ete, al_dfn, Bool.not_eq_true', Bool.not_eq_false', al_ne, Bool.not_not, al_nn] at hb4p
    have hq : v.isWarmA A = false := by simpa using hb4p
    refine W_region rfl ?_
    refine WO_p (PS_move_ptr rfl) ?_
    refine WO_loadA _ Hvad.isAgg25 Hvad.sizeOf25 rfl (Hb.h (by repeat (first | assumption | exact Hb.newY _ _ | refine Hb.alloc ?_ | refine Hb.drew ?_ | refine Hb.ext (by assumption) ?_ | exact Hb.setSameL (by first | omega | (simp only [size_alloc, size_setB, size_drew]; omega)) | exact Hb.setSame (by assumption) | refine Hb.set (by first | omega | (simp only [size_alloc, size_setB, size_drew]; omega)) ?_ ))) (by first | omega | assumption | rfl | decide | exact Nat.le_refl _ | (simp only [size_ic, Value.cells]; omega) | simp) (Xt.h (by first | assumption | exact Xt.whole rfl rfl | exact Xt.whole rfl (by simp only [size_ic, Value.cells]; omega) | exact ⟨rfl⟩)) ?_
    refine WO_call Hvad.call77 (by rfl) (Ret.mono (warmA_spec C c v B β A _ (VS.ext hv (by repeat (first | assumption | exact Ext.refl _ | refine Ext.alloc ?_ _ | refine Ext.drew ?_ | refine Ext.setB ?_ (by first | omega | (simp only [size_alloc, size_setB, size_drew]; omega)) _ | exact Ext.trans (by assumption) (by assumption) | refine Ext.trans ?_ (by assumption)))) hA) ?_)
    rintro _ w9 ⟨hu9, c9, B9, hv9, hs9⟩
    subst hu9
    have hs9w := VStep.pre (w := w) (by repeat (first | assumption | exact Ext.refl _ | refine Ext.alloc ?_ _ | refine Ext.drew ?_ | refine Ext.setB ?_ (by first | omega | (simp only [size_alloc, size_setB, size_drew]; omega)) _ | exact Ext.trans (by assumption) (by assumption) | refine Ext.trans ?_ (by assumption))) hs9
    refine WO_nil ?_
    first | refine bodyQ_ret0 Hvad.results37 ?_ | refine bodyQ_end0 Hvad.results37 ?_
    first
    | (rw [V.warmT, if_pos hq]; exact VRet.ext hv (by repeat (first | assumption | exact Ext.refl _ | refine Ext.alloc ?_ _ | refine Ext.drew ?_ | refine Ext.setB ?_ (by first | omega | (simp only [size_alloc, size_setB, size_drew]; omega)) _ | refine Ext.trans ?_ (by assumption))))
    | (rw [V.warmT, if_neg (by rw [hq]; decide)]; exact ⟨c9, B9, hv9, hs9w⟩)
  · have hb4p := hb4.h; try simp only [al_ete, al_dfn, Bool.not_eq_true', Bool.not_eq_false', al_ne, Bool.not_not, al_nn] at hb4p
    have hq : v.isWarmA A = true := by simpa using hb4p
    refine W_skip ?_
    first | refine bodyQ_ret0 Hvad.results37 ?_ | refine bodyQ_end0 Hvad.results37 ?_
    first
    | (rw [V.warmT, if_pos hq]; exact VRet.ext hv (by repeat (first | assumption | exact Ext.refl _ | refine Ext.alloc ?_ _ | refine Ext.drew ?_ | refine Ext.setB ?_ (by first | omega | (simp only [size_alloc, size_setB, size_drew]; omega)) _ | refine Ext.trans ?_ (by assumption))))
    | (rw [V.warmT, if_neg (by rw [hq]; decide)]; exact ⟨c9, B9, hv9, hs9w⟩)

set_option maxRecDepth 10000 in
theorem copiedE_spec (s : SV) (L : List Int) (w : World) (hs : SC w .u8 1 s L) (hL : s.2.1 ≤ 1000000) : Ret Hvad.prog 42 #[.slice s.1 s.2.1 s.2.2] w fun u w' => Ext w w' ∧ ∃ s', u = .slice s'.1 s'.2.1 s'.2.2 ∧ NewB w w' s' L := by
  obtain ⟨p, n, cap⟩ := s
  obtain ⟨hsl, hss⟩ := hs
  dsimp only at hsl hss hL ⊢
  refine Ret_of_W Hvad.func42 rfl rfl ?_
  refine W_seq ?_
  refine W_region rfl ?_
  refine WO_p (PS_assign_slice rfl) ?_
  refine WO_nil ?_
  refine thn_normal ?_
  refine W_seq ?_
  refine W_seq ?_
  refine W_region rfl ?_
  refine WO_p (PS_move_slice rfl) ?_
  refine WO_p (PS_lenS Hvad.runUnderlying32 rfl) ?_
  refine WO_p (PS_eql rfl rfl) ?_
  refine WO_nil ?_
  refine thn_normal ?_
  refine W_if rfl (fun hb2 => ?_) (fun hb2 => ?_)
  · have hb2p := hb2.h; try simp only [al_ete, al_dfn, Bool.not_eq_true', Bool.not_eq_false', al_ne, Bool.not_not, al_nn] at hb2p
    obtain rfl : n = 0 := by omega
    obtain rfl : L = [] := List.eq_nil_of_length_eq_zero (by omega)
    refine W_seq ?_
    refine W_region rfl ?_
    refine WO_p (PS_assign_slice rfl) ?_
    refine WO_nil ?_
    refine thn_normal ?_
    refine W_ret ?_
    refine thn_ret ?_
    refine bodyQ_ret1 Hvad.results42 rfl (.slice _ _ _) rfl ?_
    first
    | exact ⟨(by repeat (first | assumption | exact Ext.refl _ | refine Ext.alloc ?_ _ | refine Ext.drew ?_ | refine Ext.setB ?_ (by first | omega | (simp only [size_alloc, size_setB, size_drew]; omega)) _ | refine Ext.trans ?_ (by assumption))), (none, 0, 0), rfl, Or.inl ⟨rfl, rfl⟩⟩
    | exact ⟨(by repeat (first | assumption | exact Ext.refl _ | refine Ext.alloc ?_ _ | refine Ext.drew ?_ | refine Ext.setB ?_ (by first | omega | (simp only [size_alloc, size_setB, size_drew]; omega)) _ | refine Ext.trans ?_ (by assumption))), (some ⟨w.heap.size, 0, none⟩, n, n), rfl, Or.inr ⟨by intro e; rw [e] at hLl; simp at hLl; omega, w.heap.size, by rw [hLl], Nat.le_refl _, Hb.setSameL (by first | omega | (simp only [size_alloc, size_setB, size_drew]; omega))⟩⟩
  · have hb2p := hb2.h; try simp only [al_ete, al_dfn, Bool.not_eq_true', Bool.not_eq_false', al_ne, Bool.not_not, al_nn] at hb2p
    obtain ⟨b, o, r, T, fz, hp1, hb1, ho, hxt⟩ := hss.resolve_left (fun h => by omega)
    subst hp1
    have hLl : L.length = n := by omega
    have hz : madeCells (Value.int IntKind.u8 0).cells (n * Hvad.t5.size) = ic .u8 (List.replicate n 0) := by rw [show Hvad.t5.size = 1 from rfl, Nat.mul_one]; exact made_ic .u8 n
    refine W_skip ?_
    refine thn_normal ?_
    refine W_seq ?_
    refine W_region rfl ?_
    refine WO_p (PS_move_slice rfl) ?_
    refine WO_p (PS_lenS Hvad.runUnderlying32 rfl) ?_
    refine WO_make (z := .int .u8 0) Hvad.underlying32 info5 rfl rfl rfl (by omega) (by omega) (by show (1:Int) * _ ≤ _; omega) (by omega) ?_
    rw [show ((n:Int)).toNat = n from Int.toNat_natCast n, hz]
    refine WO_p (PS_assign_slice rfl) ?_
    refine WO_nil ?_
    refine thn_normal ?_
    refine W_seq ?_
    refine W_region rfl ?_
    refine WO_p (PS_move_slice rfl) ?_
    refine WO_p (PS_move_slice rfl) ?_
    refine WO_copy n Hvad.runUnderlying32 Hvad.sizeOf5 rfl rfl (Hb.h (Hb.newY _ _)) (Hb.h (Hb.alloc hb1)) (Nat.min_self n) (by rw [size_ic, List.length_replicate]; omega) ho hxt.h oneCell_ic ?_
    rw [splice_whole rfl (by simp [ic, hLl])]
    refine WO_nil ?_
    refine thn_normal ?_
    refine W_seq ?_
    refine W_region rfl ?_
    refine WO_p (PS_move_slice rfl) ?_
    refine WO_p (PS_assign_slice rfl) ?_
    refine WO_nil ?_
    refine thn_normal ?_
    refine W_ret ?_
    refine bodyQ_ret1 Hvad.results42 rfl (.slice _ _ _) rfl ?_
    first
    | exact ⟨(by repeat (first | assumption | exact Ext.refl _ | refine Ext.alloc ?_ _ | refine Ext.drew ?_ | refine Ext.setB ?_ (by first | omega | (simp only [size_alloc, size_setB, size_drew]; omega)) _ | refine Ext.trans ?_ (by assumption))), (none, 0, 0), rfl, Or.inl ⟨rfl, rfl⟩⟩
    | exact ⟨(by repeat (first | assumption | exact Ext.refl _ | refine Ext.alloc ?_ _ | refine Ext.drew ?_ | refine Ext.setB ?_ (by first | omega | (simp only [size_alloc, size_setB, size_drew]; omega)) _ | refine Ext.trans ?_ (by assumption))), (some ⟨w.heap.size, 0, none⟩, n, n), rfl, Or.inr ⟨by intro e; rw [e] at hLl; simp at hLl; omega, w.heap.size, by rw [hLl], Nat.le_refl _, Hb.setSameL (by first | omega | (simp only [size_alloc, size_setB, size_drew]; omega))⟩⟩

set_option maxRecDepth 10000 in
theorem copiedE0_spec (s : SV) (w : World) (h0 : s.2.1 = 0) : Ret Hvad.prog 42 #[.slice s.1 s.2.1 s.2.2] w fun u w' => Ext w w' ∧ ∃ s', u = .slice s'.1 s'.2.1 s'.2.2 ∧ NewB w w' s' [] := by
  refine Ret_of_W Hvad.func42 rfl rfl ?_
  refine W_seq ?_
  refine W_region rfl ?_
  refine WO_p (PS_assign_slice rfl) ?_
  refine WO_nil ?_
  refine thn_normal ?_
  refine W_seq ?_
  refine W_seq ?_
  refine W_region rfl ?_
  refine WO_p (PS_move_slice rfl) ?_
  refine WO_p (PS_lenS Hvad.runUnderlying32 rfl) ?_
  refine WO_p (PS_eql rfl rfl) ?_
  refine WO_nil ?_
  refine thn_normal ?_
  refine W_if rfl (fun hb2 => ?_) (fun hb2 => ?_)
  · have hb2p := hb2.h; try simp only [al_ete, al_dfn, Bool.not_eq_true', Bool.not_eq_false', al_ne, Bool.not_not, al_nn] at hb2p
    refine W_seq ?_
    refine W_region rfl ?_
    refine WO_p (PS_assign_slice rfl) ?_
    refine WO_nil ?_
    refine thn_normal ?_
    refine W_ret ?_
    refine thn_ret ?_
    refine bodyQ_ret1 Hvad.results42 rfl (.slice _ _ _) rfl ?_
    exact ⟨(by repeat (first | assumption | exact Ext.refl _ | refine Ext.alloc ?_ _ | refine Ext.drew ?_ | refine Ext.setB ?_ (by first | omega | (simp only [size_alloc, size_setB, size_drew]; omega)) _ | refine Ext.trans ?_ (by assumption))), (none, 0, 0), rfl, Or.inl ⟨rfl, rfl⟩⟩
  · have hb2p := hb2.h; try simp only [al_ete, al_dfn, Bool.not_eq_true', Bool.not_eq_false', al_ne, Bool.not_not, al_nn] at hb2p
    exfalso; omega --END

theorem copiedEI_spec (s : SV) (L : List Int) (w : World) (hs : InRow encB 1 w s L) (hL : L.length ≤ 1000000) : Ret Hvad.prog 42 #[.slice s.1 s.2.1 s.2.2] w fun u w' => Ext w w' ∧ ∃ s', u = .slice s'.1 s'.2.1 s'.2.2 ∧ NewB w w' s' L := by
  have hl := hs.len
  by_cases h0 : 0 < L.length
  · exact copiedE_spec s L w (hs.sc h0) (by omega)
  · obtain rfl : L = [] := by cases L with | nil => rfl | cons => simp at h0
    exact copiedE0_spec s w (by simpa using hl)
set_option maxRecDepth 10000 in
set_option maxHeartbeats 4000000 in
theorem warmList_spec (w0 : World) (C : Nat) (c : Array Value) (v : V) (B : VB) (β : Option Nat) (s : SV) (l : List Ax) (nj na ns : Nat) (S : Int) (w : World) (he : Ext w0 w) (hin : InRow encAx 21 w0 s l) (hax : ∀ x ∈ l, AxOK w0 x) (hv : VS w C c v B β) (hlow : ∀ b, VOwn C B b → w0.heap.size ≤ b) (hG : OpG v nj na ns S) (hj : nj + l.length + ksum l l.length ≤ 60000) (ha : na + l.length ≤ 2500) (hs : ns + ksum l l.length ≤ 2500) (hl16 : l.length ≤ 1000) (hmn : ∀ i, i ≤ l.length → ksum l i ≤ ksum l l.length) : Ret Hvad.prog 38 #[.pointer (some ⟨C, 2435, none⟩), .slice s.1 s.2.1 s.2.2] w fun u w' => ∃ y, VRet w C c B β w' y ∧ OpG y (nj + l.length + ksum l l.length) (na + l.length) (ns + ksum l l.length) S ∧ Stp v y := by
  obtain ⟨p, n, cp⟩ := s
  have hsl := hin.len
  dsimp only at hsl ⊢
  subst hsl
  have hz32 : (ic .u8 Z32).size = 32 := by rw [size_ic]; rfl
  refine Ret_of_W Hvad.func38 rfl rfl ?_
  refine W_seq ?_
  refine W_region rfl ?_
  refine WO_p (PS_move_slice rfl) ?_
  refine WO_p (PS_lenS Hvad.runUnderlying33 rfl) ?_
  refine WO_p (PS_move_int rfl) ?_
  refine WO_nil ?_
  refine thn_normal ?_
  refine W_block ?_
  refine W_loopN (fun k ρ w' => ∃ (i : Nat) (c2 : Array Value) (v2 : V) (B2 : VB), i + k = l.length ∧ VS w' C c2 v2 B2 β ∧ VStep w w' C c c2 B B2 ∧ OpG v2 (nj + i + ksum l i) (na + i) (ns + ksum l i) S ∧ Stp v v2 ∧ Fr [(0, .pointer (some ⟨C, 2435, none⟩)), (1, .slice p l.length cp), (9, .slice p l.length cp), (10, .int .i64 l.length), (11, .int .i64 i)] ρ) l.length ?_ ?_
  · exact ⟨0, c, v, B, by omega, hv.ext (by repeat (first | assumption | exact Ext.refl _ | refine Ext.alloc ?_ _ | refine Ext.drew ?_ | refine Ext.setB ?_ (by first | omega | (simp only [size_alloc, size_setB, size_drew]; omega)) _ | refine Ext.trans ?_ (by assumption))), VStep.ext (by repeat (first | assumption | exact Ext.refl _ | refine Ext.alloc ?_ _ | refine Ext.drew ?_ | refine Ext.setB ?_ (by first | omega | (simp only [size_alloc, size_setB, size_drew]; omega)) _ | refine Ext.trans ?_ (by assumption))), hG, Stp.refl v, ⟨rfl, rfl, rfl, rfl, rfl, trivial⟩⟩
  intro k ρ w2 hI2
  obtain ⟨i, c2, v2, B2, hik, hv2, hS2, hG2, hst2, hFr⟩ := hI2
  refine W_env _ hFr ?_
  have hE2 : Ext w0 w2 := Ext.keepC he hS2.keep hlow
  have hz2 := hE2.1
  have hki := hmn i (by omega)
  refine W_seq ?_
  refine W_region rfl ?_
  refine WO_p (PS_lss rfl rfl) ?_
  refine WO_nil ?_
  refine thn_normal ?_
  refine W_seq ?_
  refine W_if rfl (fun hb2 => ?_) (fun hb2 => ?_)
  · have hb2p := hb2.h; try simp only [al_ete, al_dfn, Bool.not_eq_true', Bool.not_eq_false', al_ne, Bool.not_not, al_nn] at hb2p
    obtain ⟨bx, ox, rx, Tx_, fzx, hpx, hbx, hrlx⟩ := hin.row (by omega)
    dsimp only at hpx
    subst hpx
    have hiz : i < l.length := by omega
    obtain ⟨x, hx⟩ : ∃ x, l[i]? = some x := ⟨_, List.getElem?_eq_getElem hiz⟩
    have hxk := hax x (List.mem_of_getElem? hx)
    have hxbd := hrlx.bd hx
    have hxw := hrlx.ext hx (k := 0) (n := 21) (by decide) (ax_whole hxk) (encAx_len hxk)
    have hel21 : (encAx x).toArray.size = 21 := by simpa using encAx_len hxk
    have hck := axKeys hxk
    have hca := axAddr hxk
    have hadl := hxk.ad.1
    generalize hpst : x.keys.1 = pst at hck
    have hkl := hxk.ks.len
    have hgx : l.getD i ⟨[], (none, 0, 0), []⟩ = x := getD_some hx
    have hks1 : ksum l (i + 1) = ksum l i + x.kl.length := by show ksum l i + (l.getD i ⟨[], (none, 0, 0), []⟩).kl.length = _; rw [hgx]
    have hkm := hmn (i + 1) (by omega)
    have hbx2 := hbx.ext hE2
    refine W_skip ?_
    refine thn_normal ?_
    refine W_seq ?_
    refine W_block ?_
    refine W_seq ?_
    refine W_region rfl ?_
    refine WO_p (PS_indexS Hvad.runUnderlying33 Hvad.sizeOf167 rfl rfl (by omega) (by omega)) ?_
    refine WO_loadA _ Hvad.isAgg167 Hvad.sizeOf167 rfl (Hb.h (by repeat (first | assumption | exact Hb.newY _ _ | refine Hb.alloc ?_ | refine Hb.drew ?_ | refine Hb.ext (by assumption) ?_ | exact Hb.setSameL (by first | omega | (simp only [size_alloc, size_setB, size_drew]; omega)) | exact Hb.setSame (by assumption) | refine Hb.set (by first | omega | (simp only [size_alloc, size_setB, size_drew]; omega)) ?_ ))) (by first | omega | assumption | rfl | decide | exact Nat.le_refl _ | (simp only [size_ic, Value.cells]; omega) | simp) (Xt.h (by first | assumption | exact Xt.whole rfl rfl | exact Xt.whole rfl (by simp only [size_ic, Value.cells]; omega) | exact ⟨rfl⟩)) ?_
    refine WO_allocG Hvad.zeroValue167 ?_
    intro b5 v5 hg5 hE5 hH5 hl5
    try simp only [size_alloc, size_setB, size_drew] at hg5
    have hzz5 := hE5.1
    try simp only [size_alloc, size_setB, size_drew] at hzz5
    refine WO_storeW Hvad.sizeOf167 rfl (v := .agg (encAx x).toArray) rfl hH5.h rfl hel21 (by rfl) (one_encAx x) ?_
    apply WO_gen5; intro w2b hw2b
    have hb5b : Hb w2b b5 (.cells (encAx x).toArray 167 (0, 0)) := by rw [hw2b]; exact Hb.setSame hH5
    have hE2b : Ext w2 w2b := by rw [hw2b]; exact Ext.setB hE5 hg5 _
    clear hw2b
    refine WO_nil ?_
    refine thn_normal ?_
    refine W_seq ?_
    refine W_region rfl ?_
    refine WO_p (PS_move_ptr rfl) ?_
    refine WO_p (PS_fieldAddr 0 Hvad.runUnderlying167 rfl Hvad.sizeOf25 rfl rfl) ?_
    refine WO_loadA _ Hvad.isAgg25 Hvad.sizeOf25 rfl (Hb.h (by repeat (first | assumption | exact Hb.newY _ _ | refine Hb.alloc ?_ | refine Hb.drew ?_ | refine Hb.ext (by assumption) ?_ | exact Hb.setSameL (by first | omega | (simp only [size_alloc, size_setB, size_drew]; omega)) | exact Hb.setSame (by assumption) | refine Hb.set (by first | omega | (simp only [size_alloc, size_setB, size_drew]; omega)) ?_ ))) (by first | omega | assumption | rfl | decide | exact Nat.le_refl _ | (simp only [size_ic, Value.cells]; omega) | simp) (Xt.h (by first | assumption | exact Xt.whole rfl rfl | exact Xt.whole rfl (by simp only [size_ic, Value.cells]; omega) | exact ⟨rfl⟩)) ?_
    refine WO_call Hvad.call37 (by rfl) (Ret.mono (warm_spec C c2 v2 B2 β x.addr _ (hv2.ext hE2b) hxk.ad) ?_)
    rintro u3 w3 ⟨c3, B3, hv3, hs3⟩
    obtain ⟨a3, ha31, _, hG3, hen3, hst3⟩ := hG2.warm (A := x.addr) (by omega) (Or.inr (by omega))
    generalize (v2.warmT x.addr).2 = v3 at *
    have hS3 := (hS2.trans (VStep.ext hE2b)).trans hs3
    have hEw3 : Ext w0 w3 := Ext.keepC he hS3.keep hlow
    have hb53 : Hb w3 b5 (.cells (encAx x).toArray 167 (0, 0)) := hs3.hb (hv2.ext hE2b) hb5b (by decide)
    refine WO_nil ?_
    refine thn_normal ?_
    refine W_seq ?_
    refine W_region rfl ?_
    refine WO_p (PS_fieldAddr 20 Hvad.runUnderlying167 rfl Hvad.sizeOf29 rfl rfl) ?_
    refine WO_load (.slice _ _ _) Hvad.isAgg29 rfl (Hb.h (by repeat (first | assumption | exact Hb.newY _ _ | refine Hb.alloc ?_ | refine Hb.drew ?_ | refine Hb.ext (by assumption) ?_ | exact Hb.setSameL (by first | omega | (simp only [size_alloc, size_setB, size_drew]; omega)) | exact Hb.setSame (by assumption) | refine Hb.set (by first | omega | (simp only [size_alloc, size_setB, size_drew]; omega)) ?_ ))) (Ce.h (by first | assumption | exact ⟨rfl⟩)) ?_
    refine WO_p (PS_lenS Hvad.runUnderlying29 rfl) ?_
    refine WO_p (PS_move_int rfl) ?_
    refine WO_nil ?_
    refine thn_normal ?_
    refine W_block ?_
    refine W_loopN (fun k ρ w' => ∃ (j : Nat) (c7 : Array Value) (y7 : V) (B7 : VB), j + k = x.kl.length ∧ VS w' C c7 y7 B7 β ∧ VStep w w' C c c7 B B7 ∧ OpG y7 (nj + i + 1 + ksum l i + j) (na + i + 1) (ns + ksum l i + j) S ∧ Stp v y7 ∧ y7.entered x.addr ∧ Ext w0 w' ∧ Hb w' b5 (.cells (encAx x).toArray 167 (0, 0)) ∧ Fr [(0, .pointer (some ⟨C, 2435, none⟩)), (1, .slice (some ⟨bx, ox, none⟩) l.length cp), (5, .pointer (some ⟨b5, 0, none⟩)), (9, .slice (some ⟨bx, ox, none⟩) l.length cp), (10, .int .i64 l.length), (11, .int .i64 i), (20, .slice pst x.keys.2.1 x.keys.2.2), (21, .int .i64 x.keys.2.1), (22, .int .i64 j)] ρ) x.kl.length ?_ ?_
    · exact ⟨0, c3, v3, B3, by omega, hv3, hS3, hG3.mono (by omega) (by omega) (by omega), hst2.trans hst3, hen3, hEw3, hb53, ⟨rfl, rfl, rfl, rfl, rfl, rfl, rfl, rfl, rfl, trivial⟩⟩
    intro k2 ρ2 w7 hI7
    obtain ⟨j, c7, y7, B7, hjk, hv7, hS7, hG7, hst7, hen7, hEw7, hb57, hFr7⟩ := hI7
    refine W_env _ hFr7 ?_
    have hzw7 := hEw7.1
    have hlb5 := hb57.lt
    refine W_seq ?_
    refine W_region rfl ?_
    refine WO_p (PS_lss rfl rfl) ?_
    refine WO_nil ?_
    refine thn_normal ?_
    refine W_seq ?_
    refine W_if rfl (fun hb5 => ?_) (fun hb5 => ?_)
    · have hb5p := hb5.h; try simp only [al_ete, al_dfn, Bool.not_eq_true', Bool.not_eq_false', al_ne, Bool.not_not, al_nn] at hb5p
      obtain ⟨k9, hk9⟩ : ∃ z, x.kl[j]? = some z := ⟨_, List.getElem?_eq_getElem (by omega)⟩
      obtain ⟨bk, ok, rk, Tk, fzk, hpk, hbk, hrlk⟩ := hxk.ks.get hk9
      rw [hpst] at hpk
      subst hpk
      have hkb := hxk.kb k9 (List.mem_of_getElem? hk9)
      have hkbd := hrlk.bd hk9
      have hkl32 := hkb.1
      have hkw : Xt rk (ok + j * 32 + 0) (ok + j * 32 + 0 + 32) (ic .u8 k9) := hrlk.ext hk9 (k := 0) (n := 32) (by decide) (by rw [List.drop_zero, List.take_of_length_le (by simp [encH, hkl32])]; rfl) (by simp [encH, hkl32])
      have hkw2 : Xt rk (ok + j * 32) (ok + j * 32 + 32) (ic .u8 k9) := hkw
      have hbk7 := hbk.ext hEw7
      have hWk := fromB_wd hkb.2
      have hWkl := hWk.1
      have hcb7 := hv7.blk
      have hCl7 := hcb7.lt
      refine W_skip ?_
      refine thn_normal ?_
      refine W_seq ?_
      refine W_block ?_
      refine W_seq ?_
      refine W_region rfl ?_
      refine WO_p (PS_indexS Hvad.runUnderlying29 Hvad.sizeOf28 rfl rfl (by omega) (by omega)) ?_
      refine WO_loadA _ Hvad.isAgg28 Hvad.sizeOf28 rfl (Hb.h (by repeat (first | assumption | exact Hb.newY _ _ | refine Hb.alloc ?_ | refine Hb.drew ?_ | refine Hb.ext (by assumption) ?_ | exact Hb.setSameL (by first | omega | (simp only [size_alloc, size_setB, size_drew]; omega)) | exact Hb.setSame (by assumption) | refine Hb.set (by first | omega | (simp only [size_alloc, size_setB, size_drew]; omega)) ?_ ))) (by first | omega | assumption | rfl | decide | exact Nat.le_refl _ | (simp only [size_ic, Value.cells]; omega) | simp) (Xt.h (by first | assumption | exact Xt.whole rfl rfl | exact Xt.whole rfl (by simp only [size_ic, Value.cells]; omega) | exact ⟨rfl⟩)) ?_
      refine WO_allocG Hvad.zeroValue28 ?_
      intro b7 v7 hg7 hE7 hH7 hl7
      try simp only [size_alloc, size_setB, size_drew] at hg7
      have hzz7 := hE7.1
      try simp only [size_alloc, size_setB, size_drew] at hzz7
      replace hH7 : Hb v7 b7 (.cells (ic .u8 Z32) 28 (0, 0)) := hH7
      first | refine WO_storeW Hvad.sizeOf28 rfl (v := .agg _) rfl (Hb.h (by repeat (first | assumption | exact Hb.newY _ _ | refine Hb.alloc ?_ | refine Hb.drew ?_ | refine Hb.ext (by assumption) ?_ | exact Hb.setSameL (by first | omega | (simp only [size_alloc, size_setB, size_drew]; omega)) | exact Hb.setSame (by assumption) | refine Hb.set (by first | omega | (simp only [size_alloc, size_setB, size_drew]; omega)) ?_ ))) rfl (by first | omega | assumption | rfl | decide | exact Nat.le_refl _ | (simp only [size_ic, Value.cells]; omega) | simp) (by first | omega | assumption | rfl | decide | exact Nat.le_refl _ | (simp only [size_ic, Value.cells]; omega) | simp) (by first | exact oneCell_ic | assumption) ?_ | refine WO_store Hvad.sizeOf28 rfl (v := .agg _) rfl (Hb.h (by repeat (first | assumption | exact Hb.newY _ _ | refine Hb.alloc ?_ | refine Hb.drew ?_ | refine Hb.ext (by assumption) ?_ | exact Hb.setSameL (by first | omega | (simp only [size_alloc, size_setB, size_drew]; omega)) | exact Hb.setSame (by assumption) | refine Hb.set (by first | omega | (simp only [size_alloc, size_setB, size_drew]; omega)) ?_ ))) (by first | omega | assumption | rfl | decide | exact Nat.le_refl _ | (simp only [size_ic, Value.cells]; omega) | simp) (by first | omega | assumption | rfl | decide | exact Nat.le_refl _ | (simp only [size_ic, Value.cells]; omega) | simp) (by first | exact oneCell_ic | assumption) ?_
      refine WO_nil ?_
      refine thn_normal ?_
      refine W_seq ?_
      refine W_region rfl ?_
      refine WO_loadA _ Hvad.isAgg28 Hvad.sizeOf28 rfl (Hb.h (by repeat (first | assumption | exact Hb.newY _ _ | refine Hb.alloc ?_ | refine Hb.drew ?_ | refine Hb.ext (by assumption) ?_ | exact Hb.setSameL (by first | omega | (simp only [size_alloc, size_setB, size_drew]; omega)) | exact Hb.setSame (by assumption) | refine Hb.set (by first | omega | (simp only [size_alloc, size_setB, size_drew]; omega)) ?_ ))) (by first | omega | assumption | rfl | decide | exact Nat.le_refl _ | (simp only [size_ic, Value.cells]; omega) | simp) (Xt.h (by first | assumption | exact Xt.whole rfl rfl | exact Xt.whole rfl (by simp only [size_ic, Value.cells]; omega) | exact ⟨rfl⟩)) ?_
      refine WO_call Hvad.call39 (by rfl) (Ret.mono (fromBytes_spec k9 _ hkb) ?_)
      rintro _ w27 ⟨rfl, hE27⟩
      have hz27 := hE27.1
      try simp only [size_alloc, size_setB, size_drew] at hz27
      refine WO_allocG Hvad.zeroValue59 ?_
      intro b8 v8 hg8 hE8 hH8 hl8
      try simp only [size_alloc, size_setB, size_drew] at hg8
      have hzz8 := hE8.1
      try simp only [size_alloc, size_setB, size_drew] at hzz8
      replace hH8 : Hb v8 b8 (.cells (ic .u64 [0, 0, 0, 0]) 59 (0, 0)) := hH8
      first | refine WO_storeW Hvad.sizeOf59 rfl (v := .agg _) rfl (Hb.h (by repeat (first | assumption | exact Hb.newY _ _ | refine Hb.alloc ?_ | refine Hb.drew ?_ | refine Hb.ext (by assumption) ?_ | exact Hb.setSameL (by first | omega | (simp only [size_alloc, size_setB, size_drew]; omega)) | exact Hb.setSame (by assumption) | refine Hb.set (by first | omega | (simp only [size_alloc, size_setB, size_drew]; omega)) ?_ ))) rfl (by first | omega | assumption | rfl | decide | exact Nat.le_refl _ | (simp only [size_ic, Value.cells]; omega) | simp) (by first | omega | assumption | rfl | decide | exact Nat.le_refl _ | (simp only [size_ic, Value.cells]; omega) | simp) (by first | exact oneCell_ic | assumption) ?_ | refine WO_store Hvad.sizeOf59 rfl (v := .agg _) rfl (Hb.h (by repeat (first | assumption | exact Hb.newY _ _ | refine Hb.alloc ?_ | refine Hb.drew ?_ | refine Hb.ext (by assumption) ?_ | exact Hb.setSameL (by first | omega | (simp only [size_alloc, size_setB, size_drew]; omega)) | exact Hb.setSame (by assumption) | refine Hb.set (by first | omega | (simp only [size_alloc, size_setB, size_drew]; omega)) ?_ ))) (by first | omega | assumption | rfl | decide | exact Nat.le_refl _ | (simp only [size_ic, Value.cells]; omega) | simp) (by first | omega | assumption | rfl | decide | exact Nat.le_refl _ | (simp only [size_ic, Value.cells]; omega) | simp) (by first | exact oneCell_ic | assumption) ?_
      refine WO_nil ?_
      refine thn_normal ?_
      refine W_seq ?_
      refine W_region rfl ?_
      refine WO_p (PS_move_ptr rfl) ?_
      refine WO_p (PS_fieldAddr 0 Hvad.runUnderlying167 rfl Hvad.sizeOf25 rfl rfl) ?_
      refine WO_loadA _ Hvad.isAgg25 Hvad.sizeOf25 rfl (Hb.h (by repeat (first | assumption | exact Hb.newY _ _ | refine Hb.alloc ?_ | refine Hb.drew ?_ | refine Hb.ext (by assumption) ?_ | exact Hb.setSameL (by first | omega | (simp only [size_alloc, size_setB, size_drew]; omega)) | exact Hb.setSame (by assumption) | refine Hb.set (by first | omega | (simp only [size_alloc, size_setB, size_drew]; omega)) ?_ ))) (by first | omega | assumption | rfl | decide | exact Nat.le_refl _ | (simp only [size_ic, Value.cells]; omega) | simp) (Xt.h (by first | assumption | exact Xt.whole rfl rfl | exact Xt.whole rfl (by simp only [size_ic, Value.cells]; omega) | exact ⟨rfl⟩)) ?_
      refine WO_loadA _ Hvad.isAgg59 Hvad.sizeOf59 rfl (Hb.h (by repeat (first | assumption | exact Hb.newY _ _ | refine Hb.alloc ?_ | refine Hb.drew ?_ | refine Hb.ext (by assumption) ?_ | exact Hb.setSameL (by first | omega | (simp only [size_alloc, size_setB, size_drew]; omega)) | exact Hb.setSame (by assumption) | refine Hb.set (by first | omega | (simp only [size_alloc, size_setB, size_drew]; omega)) ?_ ))) (by first | omega | assumption | rfl | decide | exact Nat.le_refl _ | (simp only [size_ic, Value.cells]; omega) | simp) (Xt.h (by first | assumption | exact Xt.whole rfl rfl | exact Xt.whole rfl (by simp only [size_ic, Value.cells]; omega) | exact ⟨rfl⟩)) ?_
      refine WO_call Hvad.call78 (by rfl) (Ret.mono (isWarmS_spec C c7 y7 B7 β x.addr (fromB k9) _ (hv7.ext (by repeat (first | assumption | exact Ext.refl _ | refine Ext.alloc ?_ _ | refine Ext.drew ?_ | refine Ext.setB ?_ (by first | omega | (simp only [size_alloc, size_setB, size_drew]; omega)) _ | exact Ext.trans (by assumption) (by assumption) | refine Ext.trans ?_ (by assumption)))) hxk.ad hWk) ?_)
      rintro _ w32 ⟨rfl, hE32⟩
      have hb832 : Hb w32 b8 (.cells (ic .u64 (fromB k9)) 59 (0, 0)) := Hb.mk (Hb.h (by repeat (first | assumption | exact Hb.newY _ _ | refine Hb.alloc ?_ | refine Hb.drew ?_ | refine Hb.ext (by assumption) ?_ | exact Hb.setSameL (by first | omega | (simp only [size_alloc, size_setB, size_drew]; omega)) | exact Hb.setSame (by assumption) | refine Hb.set (by first | omega | (simp only [size_alloc, size_setB, size_drew]; omega)) ?_ )))
      have hE732 : Ext w7 w32 := (by repeat (first | assumption | exact Ext.refl _ | refine Ext.alloc ?_ _ | refine Ext.drew ?_ | refine Ext.setB ?_ (by first | omega | (simp only [size_alloc, size_setB, size_drew]; omega)) _ | exact Ext.trans (by assumption) (by assumption) | refine Ext.trans ?_ (by assumption)))
      have hb532 := hb57.ext hE732
      have hz32b := hE32.1
      refine WO_p (PS_not rfl) ?_
      refine WO_nil ?_
      refine thn_normal ?_
      refine W_if rfl (fun hb10 => ?_) (fun hb10 => ?_)
      · have hb10p := hb10.h; try simp only [al_ete, al_dfn, Bool.not_eq_true', Bool.not_eq_false', al_ne, Bool.not_not, al_nn] at hb10p
        refine W_region rfl ?_
        refine WO_p (PS_move_ptr rfl) ?_
        refine WO_p (PS_fieldAddr 0 Hvad.runUnderlying167 rfl Hvad.sizeOf25 rfl rfl) ?_
        refine WO_loadA _ Hvad.isAgg25 Hvad.sizeOf25 rfl (Hb.h (by repeat (first | assumption | exact Hb.newY _ _ | refine Hb.alloc ?_ | refine Hb.drew ?_ | refine Hb.ext (by assumption) ?_ | exact Hb.setSameL (by first | omega | (simp only [size_alloc, size_setB, size_drew]; omega)) | exact Hb.setSame (by assumption) | refine Hb.set (by first | omega | (simp only [size_alloc, size_setB, size_drew]; omega)) ?_ ))) (by first | omega | assumption | rfl | decide | exact Nat.le_refl _ | (simp only [size_ic, Value.cells]; omega) | simp) (Xt.h (by first | assumption | exact Xt.whole rfl rfl | exact Xt.whole rfl (by simp only [size_ic, Value.cells]; omega) | exact ⟨rfl⟩)) ?_
        refine WO_loadA _ Hvad.isAgg59 Hvad.sizeOf59 rfl (Hb.h (by repeat (first | assumption | exact Hb.newY _ _ | refine Hb.alloc ?_ | refine Hb.drew ?_ | refine Hb.ext (by assumption) ?_ | exact Hb.setSameL (by first | omega | (simp only [size_alloc, size_setB, size_drew]; omega)) | exact Hb.setSame (by assumption) | refine Hb.set (by first | omega | (simp only [size_alloc, size_setB, size_drew]; omega)) ?_ ))) (by first | omega | assumption | rfl | decide | exact Nat.le_refl _ | (simp only [size_ic, Value.cells]; omega) | simp) (Xt.h (by first | assumption | exact Xt.whole rfl rfl | exact Xt.whole rfl (by simp only [size_ic, Value.cells]; omega) | exact ⟨rfl⟩)) ?_
        refine WO_call Hvad.call79 (by rfl) (Ret.mono (warmS_spec C c7 y7 B7 β x.addr (fromB k9) _ (hv7.ext hE732) hxk.ad hWk) ?_)
        rintro u11 w11 ⟨hu11, c11, B11, hv11, hs11⟩
        subst hu11
        obtain ⟨hG11, hst11⟩ := hG7.warmS (A := x.addr) (K := fromB k9) (by omega) hen7 (by omega)
        generalize (y7.warmS x.addr (fromB k9)).2 = v11 at *
        have hS11 := (hS7.trans (VStep.ext hE732)).trans hs11
        have hEw11 : Ext w0 w11 := Ext.keepC he hS11.keep hlow
        have hb511 : Hb w11 b5 (.cells (encAx x).toArray 167 (0, 0)) := hs11.hb (hv7.ext hE732) (hb57.ext hE732) (by decide)
        refine WO_nil ?_
        refine inBlk_normal ?_
        refine thn_normal ?_
        refine W_region rfl ?_
        refine WO_p (PS_add_i64n rfl rfl (by omega) (by omega)) ?_
        refine WO_p (PS_move_int rfl) ?_
        refine WO_nil ?_
        refine thn_normal ?_
        exact ⟨k2 - 1, by omega, j + 1, c11, v11, B11, by omega, hv11, hS11, hG11.mono (by omega) (by omega) (by omega), hst7.trans hst11, hst11.en _ hen7, hEw11, hb511, ⟨rfl, rfl, rfl, rfl, rfl, rfl, rfl, rfl, congrArg (Value.int .i64) (by omega), trivial⟩⟩
      · have hb10p := hb10.h; try simp only [al_ete, al_dfn, Bool.not_eq_true', Bool.not_eq_false', al_ne, Bool.not_not, al_nn] at hb10p
        refine W_skip ?_
        refine inBlk_normal ?_
        refine thn_normal ?_
        refine W_region rfl ?_
        refine WO_p (PS_add_i64n rfl rfl (by omega) (by omega)) ?_
        refine WO_p (PS_move_int rfl) ?_
        refine WO_nil ?_
        refine thn_normal ?_
        exact ⟨k2 - 1, by omega, j + 1, c7, y7, B7, by omega, hv7.ext hE732, hS7.trans (VStep.ext hE732), hG7.mono (by omega) (by omega) (by omega), hst7, hen7, hEw7.trans hE732, hb57.ext hE732, ⟨rfl, rfl, rfl, rfl, rfl, rfl, rfl, rfl, congrArg (Value.int .i64) (by omega), trivial⟩⟩
    · have hb5p := hb5.h; try simp only [al_ete, al_dfn, Bool.not_eq_true', Bool.not_eq_false', al_ne, Bool.not_not, al_nn] at hb5p
      refine W_exit ?_
      refine thn_exit ?_
      refine thn_exit ?_
      refine inBlk_exit ?_
      refine inBlk_normal ?_
      refine thn_normal ?_
      refine W_region rfl ?_
      refine WO_p (PS_add_i64n rfl rfl (by omega) (by omega)) ?_
      refine WO_p (PS_move_int rfl) ?_
      refine WO_nil ?_
      refine thn_normal ?_
      exact ⟨k - 1, by omega, i + 1, c7, y7, B7, by omega, hv7, hS7, hG7.mono (by omega) (by omega) (by omega), hst7, ⟨rfl, rfl, rfl, rfl, congrArg (Value.int .i64) (by omega), trivial⟩⟩
  · have hb2p := hb2.h; try simp only [al_ete, al_dfn, Bool.not_eq_true', Bool.not_eq_false', al_ne, Bool.not_not, al_nn] at hb2p
    refine W_exit ?_
    refine thn_exit ?_
    refine thn_exit ?_
    refine inBlk_exit ?_
    first | refine bodyQ_ret0 Hvad.results38 ?_ | refine bodyQ_end0 Hvad.results38 ?_
    have hil : i = l.length := by omega
    subst hil
    exact ⟨v2, ⟨c2, B2, hv2, hS2⟩, hG2, hst2⟩

end Go.Proofs.YgvadwGreat
