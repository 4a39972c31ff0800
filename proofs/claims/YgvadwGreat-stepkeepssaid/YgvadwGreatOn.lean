import Derived.Test.YgvadwGreatOm
namespace Go.Proofs.YgvadwGreat
set_option linter.unusedSimpArgs false
set_option linter.unusedVariables false
def IB (x : Int × Int × Int × Bool) : Prop := (0 ≤ x.1 ∧ x.1 ≤ 18) ∧ (0 ≤ x.2.1 ∧ x.2.1 ≤ 18) ∧ (0 ≤ x.2.2.1 ∧ x.2.2.1 ≤ 32000)
theorem IB.iteY {c : Prop} [Decidable c] {x y : Int × Int × Int × Bool} (h1 : c → IB x) (h2 : ¬ c → IB y) : IB (if c then x else y) := by
  split
  · exact h1 ‹_›
  · exact h2 ‹_›
theorem IB.mk' {a b c : Int} {d : Bool} (h : (0 ≤ a ∧ a ≤ 18) ∧ (0 ≤ b ∧ b ≤ 18) ∧ (0 ≤ c ∧ c ≤ 32000)) : IB (a, b, c, d) := h
theorem info_bd (o : Int) : IB (infoW o) := by
  unfold infoW
  repeat' (first | exact IB.mk' (by omega) | refine IB.iteY (fun _ => ?_) (fun _ => ?_))

set_option maxRecDepth 10000 in
theorem admit_spec (scan : List Int → List Int) (C : Nat) (c : Array Value) (v : V) (B : VB) (m : Mc) (t : Nat) (f : Fm) (S o tk gv sg : Int) (kn : Bool) (w : World) (hM : MS w C c v B m) (hf : m.frames[t]? = some f) (hI : RI scan v m t 0 S) (ho : 0 ≤ o ∧ o ≤ 255) (htk : 0 ≤ tk ∧ tk ≤ 18) (hgv : 0 ≤ gv ∧ gv ≤ 18) (hsg : 0 ≤ sg ∧ sg ≤ 32000) : Ret Hvad.prog 51 #[.pointer (some ⟨C, 0, none⟩), .int .u8 o, .int .u8 tk, .int .u8 gv, .int .u16 sg, .bool kn] w fun u w' => (u = .bool false ∧ ∃ v' m', MRet w C B m w' v' m' ∧ EndP scan m t f S v' m') ∨ (u = .bool true ∧ kn = true ∧ tk ≤ f.sp ∧ f.sp - tk + gv ≤ 64 ∧ ∃ m' c', MRet w C B m w' v m' ∧ Adm scan v m' t { f with gas := f.gas - c' } o sg c' S ∧ gasTo m'.frames (t + 1) + c' = gasTo m.frames (t + 1)) := by
  have hR := hI.run hf
  have hblk := hM.vs.blk
  have hCl := hblk.lt
  have hcs := hM.sz
  obtain ⟨ht7, hfty, hF⟩ := hM.openF hf
  have hFk := hI.fr t f (Nat.le_refl _) hf
  have hf_sp := hF.sp
  have hspt := hfty.sp
  have hsp := hFk.sp
  refine Ret_of_W Hvad.func51 rfl rfl ?_
  refine W_seq ?_
  refine W_region rfl ?_
  refine WO_p (PS_assign_bool rfl) ?_
  refine WO_nil ?_
  refine thn_normal ?_
  refine W_seq ?_
  refine W_region rfl ?_
  refine WO_p (PS_move_ptr rfl) ?_
  refine WO_call Hvad.call91 (by rfl) (Ret.mono (running_spec C c v B m t f _ (MS.ext hM (by repeat (first | assumption | exact Ext.refl _ | refine Ext.alloc ?_ _ | refine Ext.drew ?_ | refine Ext.setB ?_ (by first | omega | (simp only [size_alloc, size_setB, size_drew]; omega)) _ | exact Ext.trans (by assumption) (by assumption) | refine Ext.trans ?_ (by assumption)))) hR) ?_)
  rintro _ w91_0 ⟨hE91_0, rfl⟩
  have hz91_0 := hE91_0.1
  try simp only [size_alloc, size_setB, size_drew] at hz91_0
  refine WO_p (PS_assign_ptr rfl) ?_
  refine WO_nil ?_
  refine thn_normal ?_
  refine W_seq ?_
  refine W_seq ?_
  refine W_region rfl ?_
  refine WO_p (PS_move_ptr rfl) ?_
  refine WO_p (PS_eqlnil Hvad.underlying182 rfl) ?_
  refine WO_nil ?_
  refine thn_normal ?_
  refine W_if rfl (fun hb3 => ?_) (fun hb3 => ?_)
  · have hb3p := hb3.h; try simp only [al_ete, al_dfn, Bool.not_eq_true', Bool.not_eq_false', al_ne, Bool.not_not, al_nn] at hb3p
    simp at hb3p --END
  · have hb3p := hb3.h; try simp only [al_ete, al_dfn, Bool.not_eq_true', Bool.not_eq_false', al_ne, Bool.not_not, al_nn] at hb3p
    refine W_skip ?_
    refine thn_normal ?_
    refine W_seq ?_
    refine W_block ?_
    refine W_seq ?_
    refine W_region rfl ?_
    refine WO_p (PS_move_bool rfl) ?_
    refine WO_p (PS_not rfl) ?_
    refine WO_p (PS_assign_bool rfl) ?_
    refine WO_nil ?_
    refine thn_normal ?_
    refine W_if rfl (fun hb6 => ?_) (fun hb6 => ?_)
    · have hb6p := hb6.h; try simp only [al_ete, al_dfn, Bool.not_eq_true', Bool.not_eq_false', al_ne, Bool.not_not, al_nn] at hb6p
      skip
      refine W_seq ?_
      refine W_region rfl ?_
      refine WO_p (PS_move_ptr rfl) ?_
      refine WO_call Hvad.call93 (by rfl) (Ret.mono (fail_spec scan C c v B m t f 0 S 5 _ (MS.ext hM (by repeat (first | assumption | exact Ext.refl _ | refine Ext.alloc ?_ _ | refine Ext.drew ?_ | refine Ext.setB ?_ (by first | omega | (simp only [size_alloc, size_setB, size_drew]; omega)) _ | exact Ext.trans (by assumption) (by assumption) | refine Ext.trans ?_ (by assumption)))) hf hI (by omega)) ?_)
      rintro _ w2 ⟨rfl, v2, m2, hR2, hP2⟩
      refine WO_p (PS_assign_bool rfl) ?_
      refine WO_nil ?_
      refine thn_normal ?_
      refine W_ret ?_
      refine inBlk_ret ?_
      refine thn_ret ?_
      refine bodyQ_ret1 Hvad.results51 rfl (.bool _) rfl ?_
      exact Or.inl ⟨rfl, v2, m2, MRet.pre (by repeat (first | assumption | exact Ext.refl _ | refine Ext.alloc ?_ _ | refine Ext.drew ?_ | refine Ext.setB ?_ (by first | omega | (simp only [size_alloc, size_setB, size_drew]; omega)) _ | exact Ext.trans (by assumption) (by assumption) | refine Ext.trans ?_ (by assumption))) hR2, hP2⟩
    · have hb6p := hb6.h; try simp only [al_ete, al_dfn, Bool.not_eq_true', Bool.not_eq_false', al_ne, Bool.not_not, al_nn] at hb6p
      have hkn : kn = true := by simpa using hb6p
      refine W_seq ?_
      refine W_region rfl ?_
      refine WO_p (PS_move_ptr rfl) ?_
      refine WO_p (PS_nilCheck rfl) ?_
      refine WO_p (PS_fieldAddr 6 Hvad.runUnderlying65 rfl Hvad.sizeOf61 rfl rfl) ?_
      refine WO_load (.int _ _) Hvad.isAgg61 rfl (Hb.h (by repeat (first | assumption | exact Hb.newY _ _ | refine Hb.alloc ?_ | refine Hb.drew ?_ | refine Hb.ext (by assumption) ?_ | exact Hb.setSameL (by first | omega | (simp only [size_alloc, size_setB, size_drew]; omega)) | exact Hb.setSame (by assumption) | refine Hb.set (by first | omega | (simp only [size_alloc, size_setB, size_drew]; omega)) ?_ ))) (Ce.h (by first | assumption | exact ⟨rfl⟩)) ?_
      refine WO_p (PS_move_int rfl) ?_
      refine WO_p (PS_conv_u16n Hvad.runUnderlying5 Hvad.runUnderlying61 rfl (by omega) (by omega)) ?_
      refine WO_p (PS_lss rfl rfl) ?_
      refine WO_p (PS_assign_bool rfl) ?_
      refine WO_nil ?_
      refine thn_normal ?_
      refine W_if rfl (fun hb10 => ?_) (fun hb10 => ?_)
      · have hb10p := hb10.h; try simp only [al_ete, al_dfn, Bool.not_eq_true', Bool.not_eq_false', al_ne, Bool.not_not, al_nn] at hb10p
        refine W_seq ?_
        refine W_region rfl ?_
        refine WO_p (PS_move_ptr rfl) ?_
        refine WO_call Hvad.call93 (by rfl) (Ret.mono (fail_spec scan C c v B m t f 0 S 3 _ (MS.ext hM (by repeat (first | assumption | exact Ext.refl _ | refine Ext.alloc ?_ _ | refine Ext.drew ?_ | refine Ext.setB ?_ (by first | omega | (simp only [size_alloc, size_setB, size_drew]; omega)) _ | exact Ext.trans (by assumption) (by assumption) | refine Ext.trans ?_ (by assumption)))) hf hI (by omega)) ?_)
        rintro _ w2 ⟨rfl, v2, m2, hR2, hP2⟩
        refine WO_p (PS_assign_bool rfl) ?_
        refine WO_nil ?_
        refine thn_normal ?_
        refine W_ret ?_
        refine inBlk_ret ?_
        refine thn_ret ?_
        refine bodyQ_ret1 Hvad.results51 rfl (.bool _) rfl ?_
        exact Or.inl ⟨rfl, v2, m2, MRet.pre (by repeat (first | assumption | exact Ext.refl _ | refine Ext.alloc ?_ _ | refine Ext.drew ?_ | refine Ext.setB ?_ (by first | omega | (simp only [size_alloc, size_setB, size_drew]; omega)) _ | exact Ext.trans (by assumption) (by assumption) | refine Ext.trans ?_ (by assumption))) hR2, hP2⟩
      · have hb10p := hb10.h; try simp only [al_ete, al_dfn, Bool.not_eq_true', Bool.not_eq_false', al_ne, Bool.not_not, al_nn] at hb10p
        refine W_seq ?_
        refine W_region rfl ?_
        refine WO_p (PS_move_ptr rfl) ?_
        refine WO_p (PS_nilCheck rfl) ?_
        refine WO_p (PS_fieldAddr 6 Hvad.runUnderlying65 rfl Hvad.sizeOf61 rfl rfl) ?_
        refine WO_load (.int _ _) Hvad.isAgg61 rfl (Hb.h (by repeat (first | assumption | exact Hb.newY _ _ | refine Hb.alloc ?_ | refine Hb.drew ?_ | refine Hb.ext (by assumption) ?_ | exact Hb.setSameL (by first | omega | (simp only [size_alloc, size_setB, size_drew]; omega)) | exact Hb.setSame (by assumption) | refine Hb.set (by first | omega | (simp only [size_alloc, size_setB, size_drew]; omega)) ?_ ))) (Ce.h (by first | assumption | exact ⟨rfl⟩)) ?_
        refine WO_p (PS_move_int rfl) ?_
        refine WO_p (PS_conv_u16n Hvad.runUnderlying5 Hvad.runUnderlying61 rfl (by omega) (by omega)) ?_
        refine WO_p (PS_sub_u16n rfl rfl (by omega) (by omega)) ?_
        refine WO_p (PS_move_int rfl) ?_
        refine WO_p (PS_conv_u16n Hvad.runUnderlying5 Hvad.runUnderlying61 rfl (by omega) (by omega)) ?_
        refine WO_p (PS_add_u16n rfl rfl (by omega) (by omega)) ?_
        refine WO_p (PS_gtr rfl rfl) ?_
        refine WO_p (PS_assign_bool rfl) ?_
        refine WO_nil ?_
        refine thn_normal ?_
        refine W_if rfl (fun hb14 => ?_) (fun hb14 => ?_)
        · have hb14p := hb14.h; try simp only [al_ete, al_dfn, Bool.not_eq_true', Bool.not_eq_false', al_ne, Bool.not_not, al_nn] at hb14p
          refine W_seq ?_
          refine W_region rfl ?_
          refine WO_p (PS_move_ptr rfl) ?_
          refine WO_call Hvad.call93 (by rfl) (Ret.mono (fail_spec scan C c v B m t f 0 S 4 _ (MS.ext hM (by repeat (first | assumption | exact Ext.refl _ | refine Ext.alloc ?_ _ | refine Ext.drew ?_ | refine Ext.setB ?_ (by first | omega | (simp only [size_alloc, size_setB, size_drew]; omega)) _ | exact Ext.trans (by assumption) (by assumption) | refine Ext.trans ?_ (by assumption)))) hf hI (by omega)) ?_)
          rintro _ w2 ⟨rfl, v2, m2, hR2, hP2⟩
          refine WO_p (PS_assign_bool rfl) ?_
          refine WO_nil ?_
          refine thn_normal ?_
          refine W_ret ?_
          refine inBlk_ret ?_
          refine thn_ret ?_
          refine bodyQ_ret1 Hvad.results51 rfl (.bool _) rfl ?_
          exact Or.inl ⟨rfl, v2, m2, MRet.pre (by repeat (first | assumption | exact Ext.refl _ | refine Ext.alloc ?_ _ | refine Ext.drew ?_ | refine Ext.setB ?_ (by first | omega | (simp only [size_alloc, size_setB, size_drew]; omega)) _ | exact Ext.trans (by assumption) (by assumption) | refine Ext.trans ?_ (by assumption))) hR2, hP2⟩
        · have hb14p := hb14.h; try simp only [al_ete, al_dfn, Bool.not_eq_true', Bool.not_eq_false', al_ne, Bool.not_not, al_nn] at hb14p
          refine W_skip ?_
          refine inBlk_normal ?_
          refine thn_normal ?_
          refine W_seq ?_
          refine W_region rfl ?_
          refine WO_p (PS_move_ptr rfl) ?_
          refine WO_p (PS_move_int rfl) ?_
          refine WO_p (PS_move_int rfl) ?_
          refine WO_call Hvad.call96 (by rfl) (Ret.mono (pass_spec scan C c v B m t f S o sg _ (MS.ext hM (by repeat (first | assumption | exact Ext.refl _ | refine Ext.alloc ?_ _ | refine Ext.drew ?_ | refine Ext.setB ?_ (by first | omega | (simp only [size_alloc, size_setB, size_drew]; omega)) _ | exact Ext.trans (by assumption) (by assumption) | refine Ext.trans ?_ (by assumption)))) hf hI ho hsg) ?_)
          rintro u2 w2 hP2
          have htk2 : tk ≤ f.sp := by omega
          have hgv2 : f.sp - tk + gv ≤ 64 := by omega
          have hq : ∃ q, u2 = .bool q := hP2.elim (fun h => ⟨_, h.1⟩) (fun h => ⟨_, h.1⟩)
          obtain ⟨q, rfl⟩ := hq
          refine WO_p (PS_assign_bool rfl) ?_
          refine WO_nil ?_
          refine thn_normal ?_
          refine W_ret ?_
          refine bodyQ_ret1 Hvad.results51 rfl (.bool _) rfl ?_
          exact hP2.elim (fun ⟨hu, v2, m2, hR2, hP2⟩ => Or.inl ⟨hu, v2, m2, MRet.pre (by repeat (first | assumption | exact Ext.refl _ | refine Ext.alloc ?_ _ | refine Ext.drew ?_ | refine Ext.setB ?_ (by first | omega | (simp only [size_alloc, size_setB, size_drew]; omega)) _ | exact Ext.trans (by assumption) (by assumption) | refine Ext.trans ?_ (by assumption))) hR2, hP2⟩) (fun ⟨hu, m2, c2, hR2, hA2, hG2⟩ => Or.inr ⟨hu, hkn, htk2, hgv2, m2, c2, MRet.pre (by repeat (first | assumption | exact Ext.refl _ | refine Ext.alloc ?_ _ | refine Ext.drew ?_ | refine Ext.setB ?_ (by first | omega | (simp only [size_alloc, size_setB, size_drew]; omega)) _ | exact Ext.trans (by assumption) (by assumption) | refine Ext.trans ?_ (by assumption))) hR2, hA2, hG2⟩)

end Go.Proofs.YgvadwGreat
