import Derived.Test.YgvacwGreatIl
namespace Go.Proofs.YgvacwGreat
set_option linter.unusedSimpArgs false
set_option linter.unusedVariables false
def u16w (n : Nat) : Int := (n : Int) % 65536

set_option maxRecDepth 10000 in
set_option maxHeartbeats 4000000 in
theorem yViewI_spec [Om] (w : World) (hO : OmB w) (C : Nat) (x : YSt) (y : PSt) (hS : YSS w C x y) (hph : y.phase ≠ 1) (hp2 : y.phase ≠ 2) (hpb : y.phase ≤ 255) : Ret Hvac.prog 9 #[.pointer (some ⟨C, 0, none⟩)] w fun u w' => Ext w w' ∧ u = .agg (encVw { vw0 with done := true }).toArray := by
  have hSb := hS.blk
  have hSl := hSb.lt
  have hpx := hS.rel.phase
  have hk11 : Ce (encYS x).toArray (0 + 11) (.int .u8 x.phase) := ⟨rfl⟩
  have hsz0 : (encVw vw0).toArray.size = 50 := encVw_sz rfl rfl
  have hsz1 : (encVw { vw0 with done := true }).toArray.size = 50 := encVw_sz rfl rfl
  have hone1 := one_Vw { vw0 with done := true }
  refine Ret_of_W Hvac.func9 rfl rfl ?_
  refine W_seq ?_
  refine W_region rfl ?_
  refine WO_allocG Hvac.zeroValue44 ?_
  intro b2 v2 hg2 hE2 hH2 hl2
  try simp only [size_alloc, size_setB, size_drew] at hg2
  have hzz2 := hE2.1
  try simp only [size_alloc, size_setB, size_drew] at hzz2
  replace hH2 : Hb v2 b2 (.cells ((encVw vw0).toArray) 44 (0, 0)) := hH2
  refine WO_nil ?_
  refine thn_normal ?_
  refine W_seq ?_
  refine W_region rfl ?_
  refine WO_p (PS_move_ptr rfl) ?_
  refine WO_p (PS_nilCheck rfl) ?_
  refine WO_p (PS_fieldAddr 0 Hvac.runUnderlying101 rfl Hvac.sizeOf99 rfl rfl) ?_
  refine WO_p (PS_assign_ptr rfl) ?_
  refine WO_nil ?_
  refine thn_normal ?_
  refine W_seq ?_
  refine W_seq ?_
  refine W_region rfl ?_
  refine WO_p (PS_move_ptr rfl) ?_
  refine WO_p (PS_nilCheck rfl) ?_
  refine WO_p (PS_fieldAddr 11 Hvac.runUnderlying99 rfl Hvac.sizeOf5 rfl rfl) ?_
  refine WO_load (.int _ _) Hvac.isAgg5 rfl (Hb.h (by repeat (first | assumption | exact Hb.newY _ _ | refine Hb.alloc ?_ | refine Hb.drew ?_ | refine Hb.ext (by assumption) ?_ | exact Hb.setSameL (by first | omega | (simp only [size_alloc, size_setB, size_drew]; omega)) | exact Hb.setSame (by assumption) | refine Hb.set (by first | omega | (simp only [size_alloc, size_setB, size_drew]; omega)) ?_ ))) (Ce.h (by first | assumption | exact ⟨rfl⟩)) ?_
  refine WO_p (PS_eql rfl rfl) ?_
  refine WO_nil ?_
  refine thn_normal ?_
  refine W_if rfl (fun hb2 => ?_) (fun hb2 => ?_)
  · have hb2p := hb2.h; try simp only [al_ete, al_dfn, Bool.not_eq_true', Bool.not_eq_false', al_ne, Bool.not_not, al_nn] at hb2p
    exfalso; omega --END
  · have hb2p := hb2.h; try simp only [al_ete, al_dfn, Bool.not_eq_true', Bool.not_eq_false', al_ne, Bool.not_not, al_nn] at hb2p
    refine W_skip ?_
    refine thn_normal ?_
    refine W_seq ?_
    refine W_seq ?_
    refine W_region rfl ?_
    refine WO_p (PS_move_ptr rfl) ?_
    refine WO_p (PS_nilCheck rfl) ?_
    refine WO_p (PS_fieldAddr 11 Hvac.runUnderlying99 rfl Hvac.sizeOf5 rfl rfl) ?_
    refine WO_load (.int _ _) Hvac.isAgg5 rfl (Hb.h (by repeat (first | assumption | exact Hb.newY _ _ | refine Hb.alloc ?_ | refine Hb.drew ?_ | refine Hb.ext (by assumption) ?_ | exact Hb.setSameL (by first | omega | (simp only [size_alloc, size_setB, size_drew]; omega)) | exact Hb.setSame (by assumption) | refine Hb.set (by first | omega | (simp only [size_alloc, size_setB, size_drew]; omega)) ?_ ))) (Ce.h (by first | assumption | exact ⟨rfl⟩)) ?_
    refine WO_p (PS_neq rfl rfl) ?_
    refine WO_p (PS_move_bool rfl) ?_
    refine WO_if (t := 45) rfl (fun hb4 => ?_) (fun hb4 => ?_)
    · have hb4p := hb4.h; try simp only [al_ete, al_dfn, Bool.not_eq_true', Bool.not_eq_false', al_ne, Bool.not_not, al_nn] at hb4p
      refine WO_guardF rfl rfl hb4.h ?_
      refine WO_guardF rfl rfl hb4.h ?_
      refine WO_guardF rfl rfl hb4.h ?_
      refine WO_guardF rfl rfl hb4.h ?_
      refine WO_guardF rfl rfl hb4.h ?_
      refine WO_guardF rfl rfl hb4.h ?_
      refine WO_p (PS_pickT rfl hb4.h rfl) ?_
      refine WO_nil ?_
      refine thn_normal ?_
      refine W_condT rfl rfl ?_
      refine W_seq ?_
      refine W_region rfl ?_
      refine WO_p (PS_b44_0 rfl) ?_
      first | refine WO_storeW Hvac.sizeOf44 rfl (v := .agg _) rfl (Hb.h (by repeat (first | assumption | exact Hb.newY _ _ | refine Hb.alloc ?_ | refine Hb.drew ?_ | refine Hb.ext (by assumption) ?_ | exact Hb.setSameL (by first | omega | (simp only [size_alloc, size_setB, size_drew]; omega)) | exact Hb.setSame (by assumption) | refine Hb.set (by first | omega | (simp only [size_alloc, size_setB, size_drew]; omega)) ?_ ))) rfl (by first | omega | assumption | rfl | decide | exact Nat.le_refl _ | (simp only [size_ic, Value.cells]; omega) | (simp [encWs]; done) | (simp; omega) | simp | exact encYA_sz (by assumption) | exact encYT_sz (by assumption) | exact encYM_sz (by assumption)) (by first | omega | assumption | rfl | decide | exact Nat.le_refl _ | (simp only [size_ic, Value.cells]; omega) | (simp [encWs]; done) | (simp; omega) | simp | exact encYA_sz (by assumption) | exact encYT_sz (by assumption) | exact encYM_sz (by assumption)) (by first | exact oneCell_ic | assumption | exact one_Ws2 _ | exact one_YA2 _ | exact one_YSl2 _ | exact one_YM2 _ | exact one_YT2 _ | exact one_L2 _) ?_ | refine WO_store Hvac.sizeOf44 rfl (v := .agg _) rfl (Hb.h (by repeat (first | assumption | exact Hb.newY _ _ | refine Hb.alloc ?_ | refine Hb.drew ?_ | refine Hb.ext (by assumption) ?_ | exact Hb.setSameL (by first | omega | (simp only [size_alloc, size_setB, size_drew]; omega)) | exact Hb.setSame (by assumption) | refine Hb.set (by first | omega | (simp only [size_alloc, size_setB, size_drew]; omega)) ?_ ))) (by first | omega | assumption | rfl | decide | exact Nat.le_refl _ | (simp only [size_ic, Value.cells]; omega) | (simp [encWs]; done) | (simp; omega) | simp | exact encYA_sz (by assumption) | exact encYT_sz (by assumption) | exact encYM_sz (by assumption)) (by first | omega | assumption | rfl | decide | exact Nat.le_refl _ | (simp only [size_ic, Value.cells]; omega) | (simp [encWs]; done) | (simp; omega) | simp | exact encYA_sz (by assumption) | exact encYT_sz (by assumption) | exact encYM_sz (by assumption)) (by first | exact oneCell_ic | assumption | exact one_Ws2 _ | exact one_YA2 _ | exact one_YSl2 _ | exact one_YM2 _ | exact one_YT2 _ | exact one_L2 _) ?_
      refine WO_nil ?_
      refine thn_normal ?_
      refine W_ret ?_
      refine thn_ret ?_
      refine bodyQ_cell1 Hvac.results9 rfl Hvac.isAgg44 Hvac.sizeOf44 rfl (Hb.h (by repeat (first | assumption | exact Hb.newY _ _ | refine Hb.alloc ?_ | refine Hb.drew ?_ | refine Hb.ext (by assumption) ?_ | exact Hb.setSameL (by first | omega | (simp only [size_alloc, size_setB, size_drew]; omega)) | exact Hb.setSame (by assumption) | refine Hb.set (by first | omega | (simp only [size_alloc, size_setB, size_drew]; omega)) ?_ ))) (by first | omega | assumption | rfl | decide | exact Nat.le_refl _ | (simp only [size_ic, Value.cells]; omega) | (simp [encWs]; done) | (simp; omega) | simp | exact encYA_sz (by assumption) | exact encYT_sz (by assumption) | exact encYM_sz (by assumption)) ?_
      exact ⟨(by repeat (first | assumption | exact Ext.refl _ | refine Ext.alloc ?_ _ | refine Ext.drew ?_ | refine Ext.setB ?_ (by first | omega | (simp only [size_alloc, size_setB, size_drew]; omega)) _ | refine Ext.trans ?_ (by assumption))), rfl⟩
    · have hb4p := hb4.h; try simp only [al_ete, al_dfn, Bool.not_eq_true', Bool.not_eq_false', al_ne, Bool.not_not, al_nn] at hb4p
      exfalso; omega --END

end Go.Proofs.YgvacwGreat
