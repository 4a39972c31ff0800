import Derived.Test.YgvacwGreatIb
import Derived.Test.YgvacwGreatZc
namespace Go.Proofs.YgvacwGreat
set_option linter.unusedSimpArgs false
set_option linter.unusedVariables false
def yprice (bf : Nat) (t : Tx) : Nat := bf + min (bvY (feeB t).2) (bvY (feeB t).1 - bf)

set_option maxRecDepth 10000 in
set_option maxHeartbeats 4000000 in
theorem yPrice_spec [Om] (w : World) (hO : OmB w) (C : Nat) (x : YSt) (y : PSt) (hS : YSS w C x y) (t : Tx) (htx : TxOK w t) (hbz : sz (bvY y.env.bfee) ≤ 32) : Ret Hvac.prog 22 #[.pointer (some ⟨C, 0, none⟩), .agg (encTx t).toArray] w fun u w' => Ext w w' ∧ ∃ s' : SV, u = .slice s'.1 s'.2.1 s'.2.2 ∧ NN w' s' (yprice (bvY y.env.bfee) t) := by
  have hone := one_encTx t
  have hszt : (encTx t).toArray.size = 174 := by have := encTx_len htx; simpa using this
  obtain ⟨hf1, hf2⟩ := feeB_by htx
  have hl1 := hf1.1
  have hl2 := hf2.1
  have hzf1 : sz (bvY (feeB t).1) ≤ 32 := by have := sz_le (bv_lt hf1.2); rwa [hl1] at this
  have hzf2 : sz (bvY (feeB t).2) ≤ 32 := by have := sz_le (bv_lt hf2.2); rwa [hl2] at this
  have hat := txAt htx
  have hSb := hS.blk
  have hSl := hSb.lt
  refine Ret_of_W Hvac.func22 rfl rfl ?_
  refine W_seq ?_
  refine W_region rfl ?_
  refine WO_boxG (.agg _) rfl ?_
  intro b3 v3 hg3 hE3 hH3 hl3
  try simp only [size_alloc, size_setB, size_drew] at hg3
  have hzz3 := hE3.1
  try simp only [size_alloc, size_setB, size_drew] at hzz3
  refine WO_p (PS_assign_slice rfl) ?_
  refine WO_nil ?_
  refine thn_normal ?_
  refine W_seq ?_
  refine W_region rfl ?_
  refine WO_call Hvac.call75 (by rfl) (Ret.mono (txFees_spec b3 t _ (Hb.mk (Hb.h (by repeat (first | assumption | exact Hb.newY _ _ | refine Hb.alloc ?_ | refine Hb.drew ?_ | refine Hb.ext (by assumption) ?_ | exact Hb.setSameL (by first | omega | (simp only [size_alloc, size_setB, size_drew]; omega)) | exact Hb.setSame (by assumption) | refine Hb.set (by first | omega | (simp only [size_alloc, size_setB, size_drew]; omega)) ?_ )))) (htx.ext (by repeat (first | assumption | exact Ext.refl _ | refine Ext.alloc ?_ _ | refine Ext.drew ?_ | refine Ext.setB ?_ (by first | omega | (simp only [size_alloc, size_setB, size_drew]; omega)) _ | exact Ext.trans (by assumption) (by assumption) | refine Ext.trans ?_ (by assumption))))) ?_)
  rintro _ w75_0 ⟨rfl, hE75_0⟩
  have hz75_0 := hE75_0.1
  try simp only [size_alloc, size_setB, size_drew] at hz75_0
  refine WO_p (PS_move_tuple rfl) ?_
  refine WO_p (PS_extract_agg rfl rfl) ?_
  refine WO_p (PS_extract_agg rfl rfl) ?_
  refine WO_allocG Hvac.zeroValue28 ?_
  intro b5 v5 hg5 hE5 hH5 hl5
  try simp only [size_alloc, size_setB, size_drew] at hg5
  have hzz5 := hE5.1
  try simp only [size_alloc, size_setB, size_drew] at hzz5
  replace hH5 : Hb v5 b5 (.cells (ic .u8 (List.replicate 32 0)) 28 (0, 0)) := hH5
  refine WO_allocG Hvac.zeroValue28 ?_
  intro b6 v6 hg6 hE6 hH6 hl6
  try simp only [size_alloc, size_setB, size_drew] at hg6
  have hzz6 := hE6.1
  try simp only [size_alloc, size_setB, size_drew] at hzz6
  replace hH6 : Hb v6 b6 (.cells (ic .u8 (List.replicate 32 0)) 28 (0, 0)) := hH6
  first | refine WO_storeW Hvac.sizeOf28 rfl (v := .agg _) rfl (Hb.h (by repeat (first | assumption | exact Hb.newY _ _ | refine Hb.alloc ?_ | refine Hb.drew ?_ | refine Hb.ext (by assumption) ?_ | exact Hb.setSameL (by first | omega | (simp only [size_alloc, size_setB, size_drew]; omega)) | exact Hb.setSame (by assumption) | refine Hb.set (by first | omega | (simp only [size_alloc, size_setB, size_drew]; omega)) ?_ ))) rfl (by first | omega | assumption | rfl | decide | exact Nat.le_refl _ | (simp only [size_ic, Value.cells]; omega) | (simp [encWs]; done) | (simp; omega) | simp | exact encYA_sz (by assumption) | exact encYT_sz (by assumption) | exact encYM_sz (by assumption)) (by first | omega | assumption | rfl | decide | exact Nat.le_refl _ | (simp only [size_ic, Value.cells]; omega) | (simp [encWs]; done) | (simp; omega) | simp | exact encYA_sz (by assumption) | exact encYT_sz (by assumption) | exact encYM_sz (by assumption)) (by first | exact oneCell_ic | assumption | exact one_Ws2 _ | exact one_YA2 _ | exact one_YSl2 _ | exact one_YM2 _ | exact one_YT2 _ | exact one_L2 _) ?_ | refine WO_store Hvac.sizeOf28 rfl (v := .agg _) rfl (Hb.h (by repeat (first | assumption | exact Hb.newY _ _ | refine Hb.alloc ?_ | refine Hb.drew ?_ | refine Hb.ext (by assumption) ?_ | exact Hb.setSameL (by first | omega | (simp only [size_alloc, size_setB, size_drew]; omega)) | exact Hb.setSame (by assumption) | refine Hb.set (by first | omega | (simp only [size_alloc, size_setB, size_drew]; omega)) ?_ ))) (by first | omega | assumption | rfl | decide | exact Nat.le_refl _ | (simp only [size_ic, Value.cells]; omega) | (simp [encWs]; done) | (simp; omega) | simp | exact encYA_sz (by assumption) | exact encYT_sz (by assumption) | exact encYM_sz (by assumption)) (by first | omega | assumption | rfl | decide | exact Nat.le_refl _ | (simp only [size_ic, Value.cells]; omega) | (simp [encWs]; done) | (simp; omega) | simp | exact encYA_sz (by assumption) | exact encYT_sz (by assumption) | exact encYM_sz (by assumption)) (by first | exact oneCell_ic | assumption | exact one_Ws2 _ | exact one_YA2 _ | exact one_YSl2 _ | exact one_YM2 _ | exact one_YT2 _ | exact one_L2 _) ?_
  first | refine WO_storeW Hvac.sizeOf28 rfl (v := .agg _) rfl (Hb.h (by repeat (first | assumption | exact Hb.newY _ _ | refine Hb.alloc ?_ | refine Hb.drew ?_ | refine Hb.ext (by assumption) ?_ | exact Hb.setSameL (by first | omega | (simp only [size_alloc, size_setB, size_drew]; omega)) | exact Hb.setSame (by assumption) | refine Hb.set (by first | omega | (simp only [size_alloc, size_setB, size_drew]; omega)) ?_ ))) rfl (by first | omega | assumption | rfl | decide | exact Nat.le_refl _ | (simp only [size_ic, Value.cells]; omega) | (simp [encWs]; done) | (simp; omega) | simp | exact encYA_sz (by assumption) | exact encYT_sz (by assumption) | exact encYM_sz (by assumption)) (by first | omega | assumption | rfl | decide | exact Nat.le_refl _ | (simp only [size_ic, Value.cells]; omega) | (simp [encWs]; done) | (simp; omega) | simp | exact encYA_sz (by assumption) | exact encYT_sz (by assumption) | exact encYM_sz (by assumption)) (by first | exact oneCell_ic | assumption | exact one_Ws2 _ | exact one_YA2 _ | exact one_YSl2 _ | exact one_YM2 _ | exact one_YT2 _ | exact one_L2 _) ?_ | refine WO_store Hvac.sizeOf28 rfl (v := .agg _) rfl (Hb.h (by repeat (first | assumption | exact Hb.newY _ _ | refine Hb.alloc ?_ | refine Hb.drew ?_ | refine Hb.ext (by assumption) ?_ | exact Hb.setSameL (by first | omega | (simp only [size_alloc, size_setB, size_drew]; omega)) | exact Hb.setSame (by assumption) | refine Hb.set (by first | omega | (simp only [size_alloc, size_setB, size_drew]; omega)) ?_ ))) (by first | omega | assumption | rfl | decide | exact Nat.le_refl _ | (simp only [size_ic, Value.cells]; omega) | (simp [encWs]; done) | (simp; omega) | simp | exact encYA_sz (by assumption) | exact encYT_sz (by assumption) | exact encYM_sz (by assumption)) (by first | omega | assumption | rfl | decide | exact Nat.le_refl _ | (simp only [size_ic, Value.cells]; omega) | (simp [encWs]; done) | (simp; omega) | simp | exact encYA_sz (by assumption) | exact encYT_sz (by assumption) | exact encYM_sz (by assumption)) (by first | exact oneCell_ic | assumption | exact one_Ws2 _ | exact one_YA2 _ | exact one_YSl2 _ | exact one_YM2 _ | exact one_YT2 _ | exact one_L2 _) ?_
  refine WO_nil ?_
  refine thn_normal ?_
  refine W_seq ?_
  refine W_region rfl ?_
  refine WO_p (PS_slA Hvac.runUnderlying28 Hvac.sizeOf5 rfl (by omega)) ?_
  refine WO_call Hvac.call29 (by rfl) (Ret.mono (nBE_spec (OmB.ext hO (by repeat (first | assumption | exact Ext.refl _ | refine Ext.alloc ?_ _ | refine Ext.drew ?_ | refine Ext.setB ?_ (by first | omega | (simp only [size_alloc, size_setB, size_drew]; omega)) _ | exact Ext.trans (by assumption) (by assumption) | refine Ext.trans ?_ (by assumption)))) (AB.all (Hb.mk (Hb.h (by repeat (first | assumption | exact Hb.newY _ _ | refine Hb.alloc ?_ | refine Hb.drew ?_ | refine Hb.ext (by assumption) ?_ | exact Hb.setSameL (by first | omega | (simp only [size_alloc, size_setB, size_drew]; omega)) | exact Hb.setSame (by assumption) | refine Hb.set (by first | omega | (simp only [size_alloc, size_setB, size_drew]; omega)) ?_ )))) hf1.2 hl1) (by omega)) ?_)
  rintro _ w29_1 ⟨hE29_1, s29_1, rfl, hN29_1⟩
  have hz29_1 := hE29_1.1
  try simp only [size_alloc, size_setB, size_drew] at hz29_1
  refine WO_p (PS_move_ptr rfl) ?_
  refine WO_call Hvac.call78 (by rfl) (Ret.mono (yBaseFee_spec _ (OmB.ext hO (by repeat (first | assumption | exact Ext.refl _ | refine Ext.alloc ?_ _ | refine Ext.drew ?_ | refine Ext.setB ?_ (by first | omega | (simp only [size_alloc, size_setB, size_drew]; omega)) _ | exact Ext.trans (by assumption) (by assumption) | refine Ext.trans ?_ (by assumption)))) _ _ _ (by first | assumption | exact YSS.ext (by assumption) (by repeat (first | assumption | exact Ext.refl _ | refine Ext.alloc ?_ _ | refine Ext.drew ?_ | refine Ext.setB ?_ (by first | omega | (simp only [size_alloc, size_setB, size_drew]; omega)) _ | exact Ext.trans (by assumption) (by assumption) | refine Ext.trans ?_ (by assumption))))) ?_)
  rintro _ w78_2 ⟨hE78_2, s78_2, rfl, hN78_2⟩
  have hz78_2 := hE78_2.1
  try simp only [size_alloc, size_setB, size_drew] at hz78_2
  refine WO_call Hvac.call20 (by rfl) (Ret.mono (less_spec _ (OmB.ext hO (by repeat (first | assumption | exact Ext.refl _ | refine Ext.alloc ?_ _ | refine Ext.drew ?_ | refine Ext.setB ?_ (by first | omega | (simp only [size_alloc, size_setB, size_drew]; omega)) _ | exact Ext.trans (by assumption) (by assumption) | refine Ext.trans ?_ (by assumption)))) _ _ _ _ (by first | exact NN.nil _ | assumption | exact NN.ext (by assumption) (by repeat (first | assumption | exact Ext.refl _ | refine Ext.alloc ?_ _ | refine Ext.drew ?_ | refine Ext.setB ?_ (by first | omega | (simp only [size_alloc, size_setB, size_drew]; omega)) _ | exact Ext.trans (by assumption) (by assumption) | refine Ext.trans ?_ (by assumption)))) (by first | assumption | omega | (rw [sz_zero]; omega)) _ _ _ _ (by first | exact NN.nil _ | assumption | exact NN.ext (by assumption) (by repeat (first | assumption | exact Ext.refl _ | refine Ext.alloc ?_ _ | refine Ext.drew ?_ | refine Ext.setB ?_ (by first | omega | (simp only [size_alloc, size_setB, size_drew]; omega)) _ | exact Ext.trans (by assumption) (by assumption) | refine Ext.trans ?_ (by assumption)))) (by first | assumption | omega | (rw [sz_zero]; omega))) ?_)
  rintro _ w20_3 ⟨hE20_3, s20_3, rfl, hN20_3⟩
  have hz20_3 := hE20_3.1
  try simp only [size_alloc, size_setB, size_drew] at hz20_3
  have hs20_3 := hN20_3.z_sub
  refine WO_p (PS_assign_slice rfl) ?_
  refine WO_nil ?_
  refine thn_normal ?_
  refine W_seq ?_
  refine W_drawE [false, false, false, false, false, false, false, false] hmix (by kernel_rfl) rfl ?_
  refine WH_p (PS_move_ptr rfl) rfl ?_
  refine WH_call Hvac.call78 (by rfl) (Ret.mono (yBaseFee_spec _ (OmB.ext hO (by repeat (first | assumption | exact Ext.refl _ | refine Ext.alloc ?_ _ | refine Ext.drew ?_ | refine Ext.setB ?_ (by first | omega | (simp only [size_alloc, size_setB, size_drew]; omega)) _ | exact Ext.trans (by assumption) (by assumption) | refine Ext.trans ?_ (by assumption)))) _ _ _ (by first | assumption | exact YSS.ext (by assumption) (by repeat (first | assumption | exact Ext.refl _ | refine Ext.alloc ?_ _ | refine Ext.drew ?_ | refine Ext.setB ?_ (by first | omega | (simp only [size_alloc, size_setB, size_drew]; omega)) _ | exact Ext.trans (by assumption) (by assumption) | refine Ext.trans ?_ (by assumption))))) ?_)
  rintro _ w78_4 ⟨hE78_4, s78_4, rfl, hN78_4⟩
  refine ⟨(fun h => by cases h), ?_⟩
  have hz78_4 := hE78_4.1
  try simp only [size_alloc, size_setB, size_drew] at hz78_4
  refine WH_p (PS_slA Hvac.runUnderlying28 Hvac.sizeOf5 rfl (by omega)) rfl ?_
  refine WH_call Hvac.call29 (by rfl) (Ret.mono (nBE_spec (OmB.ext hO (by repeat (first | assumption | exact Ext.refl _ | refine Ext.alloc ?_ _ | refine Ext.drew ?_ | refine Ext.setB ?_ (by first | omega | (simp only [size_alloc, size_setB, size_drew]; omega)) _ | exact Ext.trans (by assumption) (by assumption) | refine Ext.trans ?_ (by assumption)))) (AB.all (Hb.mk (Hb.h (by repeat (first | assumption | exact Hb.newY _ _ | refine Hb.alloc ?_ | refine Hb.drew ?_ | refine Hb.ext (by assumption) ?_ | exact Hb.setSameL (by first | omega | (simp only [size_alloc, size_setB, size_drew]; omega)) | exact Hb.setSame (by assumption) | refine Hb.set (by first | omega | (simp only [size_alloc, size_setB, size_drew]; omega)) ?_ )))) hf2.2 hl2) (by omega)) ?_)
  rintro _ w29_5 ⟨hE29_5, s29_5, rfl, hN29_5⟩
  refine ⟨(fun h => by cases h), ?_⟩
  have hz29_5 := hE29_5.1
  try simp only [size_alloc, size_setB, size_drew] at hz29_5
  refine WH_p (PS_move_slice rfl) rfl ?_
  refine WH_call Hvac.call84 (by rfl) (Ret.mono (minNat_spec _ (OmB.ext hO (by repeat (first | assumption | exact Ext.refl _ | refine Ext.alloc ?_ _ | refine Ext.drew ?_ | refine Ext.setB ?_ (by first | omega | (simp only [size_alloc, size_setB, size_drew]; omega)) _ | exact Ext.trans (by assumption) (by assumption) | refine Ext.trans ?_ (by assumption)))) _ _ _ _ (by first | exact NN.nil _ | assumption | exact NN.ext (by assumption) (by repeat (first | assumption | exact Ext.refl _ | refine Ext.alloc ?_ _ | refine Ext.drew ?_ | refine Ext.setB ?_ (by first | omega | (simp only [size_alloc, size_setB, size_drew]; omega)) _ | exact Ext.trans (by assumption) (by assumption) | refine Ext.trans ?_ (by assumption)))) (by first | assumption | omega | (rw [sz_zero]; omega)) _ _ _ _ (by first | exact NN.nil _ | assumption | exact NN.ext (by assumption) (by repeat (first | assumption | exact Ext.refl _ | refine Ext.alloc ?_ _ | refine Ext.drew ?_ | refine Ext.setB ?_ (by first | omega | (simp only [size_alloc, size_setB, size_drew]; omega)) _ | exact Ext.trans (by assumption) (by assumption) | refine Ext.trans ?_ (by assumption)))) (by first | assumption | omega | (rw [sz_zero]; omega))) ?_)
  rintro _ w84_6 ⟨hE84_6, s84_6, rfl, hN84_6⟩
  refine ⟨(fun h => by cases h), ?_⟩
  have hz84_6 := hE84_6.1
  try simp only [size_alloc, size_setB, size_drew] at hz84_6
  have hs84_6 := hN84_6.z_min
  refine WH_call Hvac.call24 (by rfl) (Ret.mono (nAdd_spec (OmB.ext hO (by repeat (first | assumption | exact Ext.refl _ | refine Ext.alloc ?_ _ | refine Ext.drew ?_ | refine Ext.setB ?_ (by first | omega | (simp only [size_alloc, size_setB, size_drew]; omega)) _ | exact Ext.trans (by assumption) (by assumption) | refine Ext.trans ?_ (by assumption)))) (by first | exact NN.nil _ | assumption | exact NN.ext (by assumption) (by repeat (first | assumption | exact Ext.refl _ | refine Ext.alloc ?_ _ | refine Ext.drew ?_ | refine Ext.setB ?_ (by first | omega | (simp only [size_alloc, size_setB, size_drew]; omega)) _ | exact Ext.trans (by assumption) (by assumption) | refine Ext.trans ?_ (by assumption)))) (by first | exact NN.nil _ | assumption | exact NN.ext (by assumption) (by repeat (first | assumption | exact Ext.refl _ | refine Ext.alloc ?_ _ | refine Ext.drew ?_ | refine Ext.setB ?_ (by first | omega | (simp only [size_alloc, size_setB, size_drew]; omega)) _ | exact Ext.trans (by assumption) (by assumption) | refine Ext.trans ?_ (by assumption)))) (by first | assumption | omega | (rw [sz_zero]; omega)) (by first | assumption | omega | (rw [sz_zero]; omega))) ?_)
  rintro _ w24_7 ⟨hE24_7, s24_7, rfl, hN24_7⟩
  refine ⟨(fun h => by cases h), ?_⟩
  have hz24_7 := hE24_7.1
  try simp only [size_alloc, size_setB, size_drew] at hz24_7
  have hs24_7 := hN24_7.z_add
  refine WH_p (PS_assign_slice rfl) rfl ?_
  refine WH_nil ?_
  refine thn_normal ?_
  refine W_ret ?_
  refine bodyQ_ret1 Hvac.results22 rfl (.slice _ _ _) rfl ?_
  exact ⟨(by repeat (first | assumption | exact Ext.refl _ | refine Ext.alloc ?_ _ | refine Ext.drew ?_ | refine Ext.setB ?_ (by first | omega | (simp only [size_alloc, size_setB, size_drew]; omega)) _ | refine Ext.trans ?_ (by assumption))), (_, _, _), rfl, (by first | exact NN.nil _ | assumption | exact NN.ext (by assumption) (by repeat (first | assumption | exact Ext.refl _ | refine Ext.alloc ?_ _ | refine Ext.drew ?_ | refine Ext.setB ?_ (by first | omega | (simp only [size_alloc, size_setB, size_drew]; omega)) _ | refine Ext.trans ?_ (by assumption))))⟩

end Go.Proofs.YgvacwGreat
