import Derived.Test.YgvacwGreatIg
namespace Go.Proofs.YgvacwGreat
set_option linter.unusedSimpArgs false
set_option linter.unusedVariables false

set_option maxRecDepth 10000 in
set_option maxHeartbeats 4000000 in
theorem yStepNo_spec [Om] (w : World) (hO : OmB w) (C : Nat) (x : YSt) (y : PSt) (hS : YSS w C x y) (hph : y.phase ≠ 1) (hpb : y.phase ≤ 255) : Ret Hvac.prog 11 #[.pointer (some ⟨C, 0, none⟩)] w fun u w' => u = .bool false ∧ Ext w w' := by
  have hSb := hS.blk
  have hSl := hSb.lt
  have hpx := hS.rel.phase
  have hk11 : Ce (encYS x).toArray (0 + 11) (.int .u8 x.phase) := ⟨rfl⟩
  refine Ret_of_W Hvac.func11 rfl rfl ?_
  refine W_seq ?_
  refine W_region rfl ?_
  refine WO_p (PS_assign_bool rfl) ?_
  refine WO_nil ?_
  refine thn_normal ?_
  refine W_seq ?_
  refine W_region rfl ?_
  refine WO_p (PS_move_ptr rfl) ?_
  refine WO_p (PS_nilCheck rfl) ?_
  refine WO_p (PS_fieldAddr 0 Hvac.runUnderlying101 rfl Hvac.sizeOf99 rfl rfl) ?_
  refine WO_p (PS_assign_ptr rfl) ?_
  refine WO_nil ?_
  refine thn_normal ?_
  refine W_seq ?_
  refine W_seq ?_
  refine W_region rfl ?_
  refine WO_p (PS_move_ptr rfl) ?_
  refine WO_p (PS_nilCheck rfl) ?_
  refine WO_p (PS_fieldAddr 11 Hvac.runUnderlying99 rfl Hvac.sizeOf5 rfl rfl) ?_
  refine WO_load (.int _ _) Hvac.isAgg5 rfl (Hb.h (by repeat (first | assumption | exact Hb.newY _ _ | refine Hb.alloc ?_ | refine Hb.drew ?_ | refine Hb.ext (by assumption) ?_ | exact Hb.setSameL (by first | omega | (simp only [size_alloc, size_setB, size_drew]; omega)) | exact Hb.setSame (by assumption) | refine Hb.set (by first | omega | (simp only [size_alloc, size_setB, size_drew]; omega)) ?_ ))) (Ce.h (by first | assumption | exact ⟨rfl⟩)) ?_
  refine WO_p (PS_neq rfl rfl) ?_
  refine WO_p (PS_move_bool rfl) ?_
  refine WO_if (t := 16) rfl (fun hb2 => ?_) (fun hb2 => ?_)
  · have hb2p := hb2.h; try simp only [al_ete, al_dfn, Bool.not_eq_true', Bool.not_eq_false', al_ne, Bool.not_not, al_nn] at hb2p
    have hdone : True := trivial
    refine WO_guardF rfl rfl hb2.h ?_
    refine WO_guardF rfl rfl hb2.h ?_
    refine WO_guardF rfl rfl hb2.h ?_
    refine WO_guardF rfl rfl hb2.h ?_
    refine WO_guardF rfl rfl hb2.h ?_
    refine WO_guardF rfl rfl hb2.h ?_
    refine WO_p (PS_pickT rfl hb2.h rfl) ?_
    refine WO_nil ?_
    refine thn_normal ?_
    refine W_condT rfl rfl ?_
    refine W_seq ?_
    refine W_region rfl ?_
    refine WO_p (PS_assign_bool rfl) ?_
    refine WO_nil ?_
    refine thn_normal ?_
    refine W_ret ?_
    refine thn_ret ?_
    refine bodyQ_ret1 Hvac.results11 rfl (.bool _) rfl ?_
    exact ⟨rfl, (by repeat (first | assumption | exact Ext.refl _ | refine Ext.alloc ?_ _ | refine Ext.drew ?_ | refine Ext.setB ?_ (by first | omega | (simp only [size_alloc, size_setB, size_drew]; omega)) _ | refine Ext.trans ?_ (by assumption)))⟩
  · have hb2p := hb2.h; try simp only [al_ete, al_dfn, Bool.not_eq_true', Bool.not_eq_false', al_ne, Bool.not_not, al_nn] at hb2p
    exfalso; omega --END

end Go.Proofs.YgvacwGreat
