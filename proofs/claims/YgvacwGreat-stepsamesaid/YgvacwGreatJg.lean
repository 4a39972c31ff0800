import Derived.Test.YgvacwGreatJc
import Derived.Test.YgvacwGreatJd
namespace Go.Proofs.YgvacwGreat
set_option linter.unusedSimpArgs false
set_option linter.unusedVariables false
theorem or1 {x y : Int} (hy : 0 ≤ y ∧ y ≤ 18446744073709551615) : bOr (x * 2 ^ 1 % 18446744073709551616) (y / 2 ^ 63) = x * 2 % 18446744073709551616 + y / 2 ^ 63 := by
  have h := or_up (x := x) (y := y / 2 ^ 63) (r := 1) (by decide) (div_pow_bd (r := 1) (by decide) hy)
  rw [h, ← shl_mod (by decide)]
  rfl
theorem wn_sq {W : List Int} (h : Wd W) : ((wn W * wn W % 115792089237316195423570985008687907853269984665640564039457584007913129639936 : Nat) : Int) = wv W * wv W % 115792089237316195423570985008687907853269984665640564039457584007913129639936 := by rw [Int.natCast_emod, Int.natCast_mul, wn_int h]; rfl
theorem sq_alg {a0 a1 a2 a3 hA lA hB lB s2 k2 hC lC hD lD s5 k5 s6 k6 m3 : Int} (h0 : 0 ≤ a0 ∧ a0 ≤ 18446744073709551615) (h1 : 0 ≤ a1 ∧ a1 ≤ 18446744073709551615) (h2 : 0 ≤ a2 ∧ a2 ≤ 18446744073709551615) (h3 : 0 ≤ a3 ∧ a3 ≤ 18446744073709551615)
    (m0 : hA * 18446744073709551616 + lA = a0 * a1) (m1 : hB * 18446744073709551616 + lB = a0 * a2) (e2 : s2 + k2 * 18446744073709551616 = hA + lB + 0) (m4 : hC * 18446744073709551616 + lC = a0 * a0) (m5 : hD * 18446744073709551616 + lD = a1 * a1) (e5 : s5 + k5 * 18446744073709551616 = hC + lA * 2 ^ 1 % 18446744073709551616 + 0) (e6 : s6 + k6 * 18446744073709551616 = lD + bOr (s2 * 2 ^ 1 % 18446744073709551616) (lA / 2 ^ 63) + k5)
    (r0 : 0 ≤ lA ∧ lA ≤ 18446744073709551615) (r2 : 0 ≤ s2 ∧ s2 ≤ 18446744073709551615) (r4 : 0 ≤ lC ∧ lC ≤ 18446744073709551615) (r5 : 0 ≤ s5 ∧ s5 ≤ 18446744073709551615) (r6 : 0 ≤ s6 ∧ s6 ≤ 18446744073709551615) (hm3 : m3 = (((hB + a0 * a3 % 18446744073709551616) % 18446744073709551616 + a1 * a2 % 18446744073709551616) % 18446744073709551616 + k2) % 18446744073709551616) :
    wn [lC, s5, s6, ((hD + bOr (m3 * 2 ^ 1 % 18446744073709551616) (s2 / 2 ^ 63)) % 18446744073709551616 + k6) % 18446744073709551616] = wn [a0, a1, a2, a3] * wn [a0, a1, a2, a3] % 115792089237316195423570985008687907853269984665640564039457584007913129639936 := by
  rw [or1 r0] at e6
  rw [or1 r2]
  refine wn_of ?_
  rw [wn_sq (wd4 h0 h1 h2 h3), wv_mul, Int.mul_comm a1 a0, Int.mul_comm a2 a0, Int.mul_comm a2 a1, Int.mul_comm a3 a0, Int.mul_comm a3 a1, Int.mul_comm a3 a2]
  generalize a0 * a1 = p01 at *
  generalize a0 * a2 = p02 at *
  generalize a0 * a3 = p03 at *
  generalize a1 * a2 = p12 at *
  generalize a1 * a3 = p13 at *
  generalize a2 * a3 = p23 at *
  generalize a0 * a0 = p00 at *
  generalize a1 * a1 = p11 at *
  generalize a2 * a2 = p22 at *
  generalize a3 * a3 = p33 at *
  simp only [wv]
  have q63 : (2:Int) ^ 63 = 9223372036854775808 := by decide
  have q1 : (2:Int) ^ 1 = 2 := by decide
  rw [q63] at *
  rw [q1] at e5
  omega

set_option maxRecDepth 10000 in
theorem square_ex (W : List Int) (w : World) (hW : Wd W) : Ret Hvac.prog 344 #[.agg (ic .u64 W)] w fun u w' => Ext w w' ∧ ∃ R, u = .agg (ic .u64 R) ∧ Wd R ∧ wn R = wn W * wn W % 115792089237316195423570985008687907853269984665640564039457584007913129639936 := by
  obtain ⟨a0, a1, a2, a3, rfl, h0, h1, h2, h3⟩ := isZ hW
  refine Ret_of_W Hvac.func344 rfl rfl ?_
  refine W_seq ?_
  refine W_region rfl ?_
  refine WO_box (.agg _) rfl ?_
  refine WO_alloc Hvac.zeroValue61 ?_
  refine WO_nil ?_
  refine thn_normal ?_
  refine W_seq ?_
  refine W_region rfl ?_
  refine WO_p (PS_indexA Hvac.runUnderlying61 Hvac.sizeOf26 rfl rfl (by omega) (by omega)) ?_
  refine WO_load (.int _ _) Hvac.isAgg26 rfl (Hb.h (by repeat (first | assumption | exact Hb.newY _ _ | refine Hb.alloc ?_ | refine Hb.drew ?_ | refine Hb.ext (by assumption) ?_ | exact Hb.setSameL (by first | omega | (simp only [size_alloc, size_setB, size_drew]; omega)) | exact Hb.setSame (by assumption) | refine Hb.set (by first | omega | (simp only [size_alloc, size_setB, size_drew]; omega)) ?_ ))) (Ce.h (by first | assumption | exact ⟨rfl⟩)) ?_
  refine WO_p (PS_indexA Hvac.runUnderlying61 Hvac.sizeOf26 rfl rfl (by omega) (by omega)) ?_
  refine WO_load (.int _ _) Hvac.isAgg26 rfl (Hb.h (by repeat (first | assumption | exact Hb.newY _ _ | refine Hb.alloc ?_ | refine Hb.drew ?_ | refine Hb.ext (by assumption) ?_ | exact Hb.setSameL (by first | omega | (simp only [size_alloc, size_setB, size_drew]; omega)) | exact Hb.setSame (by assumption) | refine Hb.set (by first | omega | (simp only [size_alloc, size_setB, size_drew]; omega)) ?_ ))) (Ce.h (by first | assumption | exact ⟨rfl⟩)) ?_
  refine WO_call Hvac.call143 (by rfl) (Ret.mono (mul64_ex _ _ _ (by omega) (by omega)) ?_)
  rintro _ _ ⟨h143_0, l143_0, rfl, hm143_0, hh143_0, hl143_0, rfl⟩
  refine WO_p (PS_move_tuple rfl) ?_
  refine WO_p (PS_extract_int rfl rfl) ?_
  refine WO_p (PS_extract_int rfl rfl) ?_
  refine WO_p (PS_assign_int rfl) ?_
  refine WO_p (PS_assign_int rfl) ?_
  refine WO_nil ?_
  refine thn_normal ?_
  refine W_seq ?_
  refine W_region rfl ?_
  refine WO_p (PS_indexA Hvac.runUnderlying61 Hvac.sizeOf26 rfl rfl (by omega) (by omega)) ?_
  refine WO_load (.int _ _) Hvac.isAgg26 rfl (Hb.h (by repeat (first | assumption | exact Hb.newY _ _ | refine Hb.alloc ?_ | refine Hb.drew ?_ | refine Hb.ext (by assumption) ?_ | exact Hb.setSameL (by first | omega | (simp only [size_alloc, size_setB, size_drew]; omega)) | exact Hb.setSame (by assumption) | refine Hb.set (by first | omega | (simp only [size_alloc, size_setB, size_drew]; omega)) ?_ ))) (Ce.h (by first | assumption | exact ⟨rfl⟩)) ?_
  refine WO_p (PS_indexA Hvac.runUnderlying61 Hvac.sizeOf26 rfl rfl (by omega) (by omega)) ?_
  refine WO_load (.int _ _) Hvac.isAgg26 rfl (Hb.h (by repeat (first | assumption | exact Hb.newY _ _ | refine Hb.alloc ?_ | refine Hb.drew ?_ | refine Hb.ext (by assumption) ?_ | exact Hb.setSameL (by first | omega | (simp only [size_alloc, size_setB, size_drew]; omega)) | exact Hb.setSame (by assumption) | refine Hb.set (by first | omega | (simp only [size_alloc, size_setB, size_drew]; omega)) ?_ ))) (Ce.h (by first | assumption | exact ⟨rfl⟩)) ?_
  refine WO_call Hvac.call143 (by rfl) (Ret.mono (mul64_ex _ _ _ (by omega) (by omega)) ?_)
  rintro _ _ ⟨h143_1, l143_1, rfl, hm143_1, hh143_1, hl143_1, rfl⟩
  refine WO_p (PS_move_tuple rfl) ?_
  refine WO_p (PS_extract_int rfl rfl) ?_
  refine WO_p (PS_extract_int rfl rfl) ?_
  refine WO_p (PS_assign_int rfl) ?_
  refine WO_p (PS_assign_int rfl) ?_
  refine WO_nil ?_
  refine thn_normal ?_
  refine W_seq ?_
  refine W_region rfl ?_
  refine WO_p (PS_move_int rfl) ?_
  refine WO_p (PS_move_int rfl) ?_
  refine WO_call Hvac.call144 (by rfl) (Ret.mono (add64_ex _ _ _ _ (by first | omega | exact bOr_bd _ _) (by first | omega | exact bOr_bd _ _) (by omega)) ?_)
  rintro _ _ ⟨s144_2, k144_2, rfl, hs144_2, hr144_2, hk144_2, rfl⟩
  refine WO_p (PS_move_tuple rfl) ?_
  refine WO_p (PS_extract_int rfl rfl) ?_
  refine WO_p (PS_extract_int rfl rfl) ?_
  refine WO_p (PS_assign_int rfl) ?_
  refine WO_p (PS_assign_int rfl) ?_
  refine WO_nil ?_
  refine thn_normal ?_
  refine W_seq ?_
  refine W_region rfl ?_
  refine WO_p (PS_move_int rfl) ?_
  refine WO_p (PS_indexA Hvac.runUnderlying61 Hvac.sizeOf26 rfl rfl (by omega) (by omega)) ?_
  refine WO_load (.int _ _) Hvac.isAgg26 rfl (Hb.h (by repeat (first | assumption | exact Hb.newY _ _ | refine Hb.alloc ?_ | refine Hb.drew ?_ | refine Hb.ext (by assumption) ?_ | exact Hb.setSameL (by first | omega | (simp only [size_alloc, size_setB, size_drew]; omega)) | exact Hb.setSame (by assumption) | refine Hb.set (by first | omega | (simp only [size_alloc, size_setB, size_drew]; omega)) ?_ ))) (Ce.h (by first | assumption | exact ⟨rfl⟩)) ?_
  refine WO_p (PS_indexA Hvac.runUnderlying61 Hvac.sizeOf26 rfl rfl (by omega) (by omega)) ?_
  refine WO_load (.int _ _) Hvac.isAgg26 rfl (Hb.h (by repeat (first | assumption | exact Hb.newY _ _ | refine Hb.alloc ?_ | refine Hb.drew ?_ | refine Hb.ext (by assumption) ?_ | exact Hb.setSameL (by first | omega | (simp only [size_alloc, size_setB, size_drew]; omega)) | exact Hb.setSame (by assumption) | refine Hb.set (by first | omega | (simp only [size_alloc, size_setB, size_drew]; omega)) ?_ ))) (Ce.h (by first | assumption | exact ⟨rfl⟩)) ?_
  refine WO_p (PS_mul_u64w rfl rfl) ?_
  refine WO_p (PS_add_u64w rfl rfl) ?_
  refine WO_p (PS_indexA Hvac.runUnderlying61 Hvac.sizeOf26 rfl rfl (by omega) (by omega)) ?_
  refine WO_load (.int _ _) Hvac.isAgg26 rfl (Hb.h (by repeat (first | assumption | exact Hb.newY _ _ | refine Hb.alloc ?_ | refine Hb.drew ?_ | refine Hb.ext (by assumption) ?_ | exact Hb.setSameL (by first | omega | (simp only [size_alloc, size_setB, size_drew]; omega)) | exact Hb.setSame (by assumption) | refine Hb.set (by first | omega | (simp only [size_alloc, size_setB, size_drew]; omega)) ?_ ))) (Ce.h (by first | assumption | exact ⟨rfl⟩)) ?_
  refine WO_p (PS_indexA Hvac.runUnderlying61 Hvac.sizeOf26 rfl rfl (by omega) (by omega)) ?_
  refine WO_load (.int _ _) Hvac.isAgg26 rfl (Hb.h (by repeat (first | assumption | exact Hb.newY _ _ | refine Hb.alloc ?_ | refine Hb.drew ?_ | refine Hb.ext (by assumption) ?_ | exact Hb.setSameL (by first | omega | (simp only [size_alloc, size_setB, size_drew]; omega)) | exact Hb.setSame (by assumption) | refine Hb.set (by first | omega | (simp only [size_alloc, size_setB, size_drew]; omega)) ?_ ))) (Ce.h (by first | assumption | exact ⟨rfl⟩)) ?_
  refine WO_p (PS_mul_u64w rfl rfl) ?_
  refine WO_p (PS_add_u64w rfl rfl) ?_
  refine WO_p (PS_move_int rfl) ?_
  refine WO_p (PS_add_u64w rfl rfl) ?_
  refine WO_p (PS_assign_int rfl) ?_
  refine WO_nil ?_
  refine thn_normal ?_
  refine W_seq ?_
  refine W_region rfl ?_
  refine WO_p (PS_indexA Hvac.runUnderlying61 Hvac.sizeOf26 rfl rfl (by omega) (by omega)) ?_
  refine WO_load (.int _ _) Hvac.isAgg26 rfl (Hb.h (by repeat (first | assumption | exact Hb.newY _ _ | refine Hb.alloc ?_ | refine Hb.drew ?_ | refine Hb.ext (by assumption) ?_ | exact Hb.setSameL (by first | omega | (simp only [size_alloc, size_setB, size_drew]; omega)) | exact Hb.setSame (by assumption) | refine Hb.set (by first | omega | (simp only [size_alloc, size_setB, size_drew]; omega)) ?_ ))) (Ce.h (by first | assumption | exact ⟨rfl⟩)) ?_
  refine WO_p (PS_indexA Hvac.runUnderlying61 Hvac.sizeOf26 rfl rfl (by omega) (by omega)) ?_
  refine WO_load (.int _ _) Hvac.isAgg26 rfl (Hb.h (by repeat (first | assumption | exact Hb.newY _ _ | refine Hb.alloc ?_ | refine Hb.drew ?_ | refine Hb.ext (by assumption) ?_ | exact Hb.setSameL (by first | omega | (simp only [size_alloc, size_setB, size_drew]; omega)) | exact Hb.setSame (by assumption) | refine Hb.set (by first | omega | (simp only [size_alloc, size_setB, size_drew]; omega)) ?_ ))) (Ce.h (by first | assumption | exact ⟨rfl⟩)) ?_
  refine WO_call Hvac.call143 (by rfl) (Ret.mono (mul64_ex _ _ _ (by omega) (by omega)) ?_)
  rintro _ _ ⟨h143_3, l143_3, rfl, hm143_3, hh143_3, hl143_3, rfl⟩
  refine WO_p (PS_move_tuple rfl) ?_
  refine WO_p (PS_extract_int rfl rfl) ?_
  refine WO_p (PS_extract_int rfl rfl) ?_
  refine WO_p (PS_assign_int rfl) ?_
  refine WO_p (PS_assign_int rfl) ?_
  refine WO_nil ?_
  refine thn_normal ?_
  refine W_seq ?_
  refine W_region rfl ?_
  refine WO_p (PS_indexA Hvac.runUnderlying61 Hvac.sizeOf26 rfl rfl (by omega) (by omega)) ?_
  refine WO_load (.int _ _) Hvac.isAgg26 rfl (Hb.h (by repeat (first | assumption | exact Hb.newY _ _ | refine Hb.alloc ?_ | refine Hb.drew ?_ | refine Hb.ext (by assumption) ?_ | exact Hb.setSameL (by first | omega | (simp only [size_alloc, size_setB, size_drew]; omega)) | exact Hb.setSame (by assumption) | refine Hb.set (by first | omega | (simp only [size_alloc, size_setB, size_drew]; omega)) ?_ ))) (Ce.h (by first | assumption | exact ⟨rfl⟩)) ?_
  refine WO_p (PS_indexA Hvac.runUnderlying61 Hvac.sizeOf26 rfl rfl (by omega) (by omega)) ?_
  refine WO_load (.int _ _) Hvac.isAgg26 rfl (Hb.h (by repeat (first | assumption | exact Hb.newY _ _ | refine Hb.alloc ?_ | refine Hb.drew ?_ | refine Hb.ext (by assumption) ?_ | exact Hb.setSameL (by first | omega | (simp only [size_alloc, size_setB, size_drew]; omega)) | exact Hb.setSame (by assumption) | refine Hb.set (by first | omega | (simp only [size_alloc, size_setB, size_drew]; omega)) ?_ ))) (Ce.h (by first | assumption | exact ⟨rfl⟩)) ?_
  refine WO_call Hvac.call143 (by rfl) (Ret.mono (mul64_ex _ _ _ (by omega) (by omega)) ?_)
  rintro _ _ ⟨h143_4, l143_4, rfl, hm143_4, hh143_4, hl143_4, rfl⟩
  refine WO_p (PS_move_tuple rfl) ?_
  refine WO_p (PS_extract_int rfl rfl) ?_
  refine WO_p (PS_extract_int rfl rfl) ?_
  refine WO_p (PS_assign_int rfl) ?_
  refine WO_p (PS_assign_int rfl) ?_
  refine WO_nil ?_
  refine thn_normal ?_
  refine W_seq ?_
  refine W_region rfl ?_
  refine WO_p (PS_move_int rfl) ?_
  refine WO_p (PS_move_int rfl) ?_
  refine WO_p (PS_shl_u64 1 rfl rfl (by decide) rfl) ?_
  refine WO_call Hvac.call144 (by rfl) (Ret.mono (add64_ex _ _ _ _ (by first | omega | exact bOr_bd _ _) (by first | omega | exact bOr_bd _ _) (by omega)) ?_)
  rintro _ _ ⟨s144_5, k144_5, rfl, hs144_5, hr144_5, hk144_5, rfl⟩
  refine WO_p (PS_move_tuple rfl) ?_
  refine WO_p (PS_extract_int rfl rfl) ?_
  refine WO_p (PS_extract_int rfl rfl) ?_
  refine WO_p (PS_assign_int rfl) ?_
  refine WO_p (PS_assign_int rfl) ?_
  refine WO_nil ?_
  refine thn_normal ?_
  refine W_seq ?_
  refine W_region rfl ?_
  refine WO_p (PS_move_int rfl) ?_
  refine WO_p (PS_move_int rfl) ?_
  refine WO_p (PS_shl_u64 1 rfl rfl (by decide) rfl) ?_
  refine WO_p (PS_move_int rfl) ?_
  refine WO_p (PS_shr_u64 63 rfl rfl (by decide) rfl) ?_
  refine WO_p (PS_or_u64 rfl rfl) ?_
  refine WO_p (PS_move_int rfl) ?_
  refine WO_call Hvac.call144 (by rfl) (Ret.mono (add64_ex _ _ _ _ (by first | omega | exact bOr_bd _ _) (by first | omega | exact bOr_bd _ _) (by omega)) ?_)
  rintro _ _ ⟨s144_6, k144_6, rfl, hs144_6, hr144_6, hk144_6, rfl⟩
  refine WO_p (PS_move_tuple rfl) ?_
  refine WO_p (PS_extract_int rfl rfl) ?_
  refine WO_p (PS_extract_int rfl rfl) ?_
  refine WO_p (PS_assign_int rfl) ?_
  refine WO_p (PS_assign_int rfl) ?_
  refine WO_nil ?_
  refine thn_normal ?_
  refine W_seq ?_
  refine W_region rfl ?_
  refine WO_p (PS_move_int rfl) ?_
  refine WO_p (PS_move_int rfl) ?_
  refine WO_p (PS_shl_u64 1 rfl rfl (by decide) rfl) ?_
  refine WO_p (PS_move_int rfl) ?_
  refine WO_p (PS_shr_u64 63 rfl rfl (by decide) rfl) ?_
  refine WO_p (PS_or_u64 rfl rfl) ?_
  refine WO_p (PS_add_u64w rfl rfl) ?_
  refine WO_p (PS_move_int rfl) ?_
  refine WO_p (PS_add_u64w rfl rfl) ?_
  refine WO_p (PS_assign_int rfl) ?_
  refine WO_nil ?_
  refine thn_normal ?_
  refine W_seq ?_
  refine W_region rfl ?_
  refine WO_p (PS_move_int rfl) ?_
  refine WO_p (PS_move_int rfl) ?_
  refine WO_p (PS_move_int rfl) ?_
  refine WO_p (PS_move_int rfl) ?_
  refine WO_p (PS_buildI (k := .u64) (zs := [0, 0, 0, 0]) (ps := [(0, _), (1, _), (2, _), (3, _)]) (L := [_, _, _, _]) Hvac.zeroValue61 Hvac.runUnderlying61 Hvac.sizeOf26 rfl rfl rfl rfl) ?_
  first | refine WO_storeW Hvac.sizeOf61 rfl (v := .agg _) rfl (Hb.h (by repeat (first | assumption | exact Hb.newY _ _ | refine Hb.alloc ?_ | refine Hb.drew ?_ | refine Hb.ext (by assumption) ?_ | exact Hb.setSameL (by first | omega | (simp only [size_alloc, size_setB, size_drew]; omega)) | exact Hb.setSame (by assumption) | refine Hb.set (by first | omega | (simp only [size_alloc, size_setB, size_drew]; omega)) ?_ ))) rfl (by first | omega | assumption | rfl | decide | exact Nat.le_refl _ | (simp only [size_ic, Value.cells]; omega) | (simp; omega) | simp) (by first | omega | assumption | rfl | decide | exact Nat.le_refl _ | (simp only [size_ic, Value.cells]; omega) | (simp; omega) | simp) (by first | exact oneCell_ic | assumption | exact one_Ws2 _ | exact one_YA2 _ | exact one_YSl2 _ | exact one_YM2 _ | exact one_YT2 _ | exact one_L2 _) ?_ | refine WO_store Hvac.sizeOf61 rfl (v := .agg _) rfl (Hb.h (by repeat (first | assumption | exact Hb.newY _ _ | refine Hb.alloc ?_ | refine Hb.drew ?_ | refine Hb.ext (by assumption) ?_ | exact Hb.setSameL (by first | omega | (simp only [size_alloc, size_setB, size_drew]; omega)) | exact Hb.setSame (by assumption) | refine Hb.set (by first | omega | (simp only [size_alloc, size_setB, size_drew]; omega)) ?_ ))) (by first | omega | assumption | rfl | decide | exact Nat.le_refl _ | (simp only [size_ic, Value.cells]; omega) | (simp; omega) | simp) (by first | omega | assumption | rfl | decide | exact Nat.le_refl _ | (simp only [size_ic, Value.cells]; omega) | (simp; omega) | simp) (by first | exact oneCell_ic | assumption | exact one_Ws2 _ | exact one_YA2 _ | exact one_YSl2 _ | exact one_YM2 _ | exact one_YT2 _ | exact one_L2 _) ?_
  refine WO_nil ?_
  refine thn_normal ?_
  refine W_ret ?_
  refine bodyQ_cell1 Hvac.results344 rfl Hvac.isAgg61 Hvac.sizeOf61 rfl (Hb.h (by repeat (first | assumption | exact Hb.newY _ _ | refine Hb.alloc ?_ | refine Hb.drew ?_ | refine Hb.ext (by assumption) ?_ | exact Hb.setSameL (by first | omega | (simp only [size_alloc, size_setB, size_drew]; omega)) | exact Hb.setSame (by assumption) | refine Hb.set (by first | omega | (simp only [size_alloc, size_setB, size_drew]; omega)) ?_ ))) (by first | omega | assumption | rfl | decide | exact Nat.le_refl _ | (simp only [size_ic, Value.cells]; omega) | (simp; omega) | simp) ?_
  refine ⟨(by repeat (first | assumption | exact Ext.refl _ | refine Ext.alloc ?_ _ | refine Ext.drew ?_ | refine Ext.setB ?_ (by first | omega | (simp only [size_alloc, size_setB, size_drew]; omega)) _ | refine Ext.trans ?_ (by assumption))), _, rfl, wd4 (by omega) (by omega) (by omega) (by omega), ?_⟩
  exact sq_alg h0 h1 h2 h3 hm143_0 hm143_1 hs144_2 hm143_3 hm143_4 hs144_5 hs144_6 hl143_0 hr144_2 hl143_3 hr144_5 hr144_6 rfl

theorem wn_bit {X : List Int} (hX : Wd X) {k : Nat} (hk : k < 256) : Nat.testBit (wn X) k = Nat.testBit (X.getD (k / 64) 0).toNat (k % 64) := by
  obtain ⟨a, b, c, d, rfl, ha, hb, hc, hd⟩ := isZ hX
  rw [wn_limbs ha hb hc hd, limb_bit (by omega), limb_bit (by omega), limb_bit (by omega)]
  have h9 : k / 64 = 0 ∨ k / 64 = 1 ∨ k / 64 = 2 ∨ k / 64 = 3 := by omega
  rcases h9 with h9 | h9 | h9 | h9
  · rw [if_pos (by omega), h9, show k % 64 = k by omega]; rfl
  · rw [if_neg (by omega), if_pos (by omega), h9, show k - 64 = k % 64 by omega]; rfl
  · rw [if_neg (by omega), if_neg (by omega), if_pos (by omega), h9, show k - 64 - 64 = k % 64 by omega]; rfl
  · rw [if_neg (by omega), if_neg (by omega), if_neg (by omega), h9, show k - 64 - 64 - 64 = k % 64 by omega]; rfl
theorem bit_and1 {x : Int} (hx : 0 ≤ x ∧ x ≤ 18446744073709551615) (r : Nat) : (bAnd (x / 2 ^ r) 1 ≠ 0) ↔ Nat.testBit x.toNat r = true := by
  have hb := shr_bd r hx
  rw [bAnd_nat hb.1 hb.2 (by decide) (by decide), Nat.testBit_eq_decide_div_mod_eq, al_ete]
  have e : (x / 2 ^ r).toNat &&& (1 : Int).toNat = (x / 2 ^ r).toNat % 2 := Nat.and_one_is_mod _
  have e2 : (x / 2 ^ r).toNat = x.toNat / 2 ^ r := by
    have h1 := Int.toNat_of_nonneg hx.1
    have h2 : (x / 2 ^ r) = ((x.toNat / 2 ^ r : Nat) : Int) := by rw [Int.natCast_ediv, h1]; simp
    rw [h2, Int.toNat_natCast]
  rw [e, e2]; omega
theorem pow_lt {X : List Int} (hX : Wd X) {n len : Nat} (hn : 0 < n) (hn4 : n ≤ 4) (hz : ∀ k, n ≤ k → X.getD k 0 = 0) (hL : Ln (X.getD (n - 1) 0) len) (hnz : X.getD (n - 1) 0 ≠ 0) : 1 ≤ len ∧ 2 ^ (64 * (n - 1) + (len - 1)) ≤ wn X ∧ wn X < 2 ^ (64 * (n - 1) + len) := by
  have hx := wd_get hX (n - 1)
  have hl := hL.pos (by omega)
  have e1 := lvr_zero_from (L := X) (o := 0) (a := n) (4 - n) (fun k h1 h2 => by rw [Nat.zero_add]; exact hz k h1)
  rw [show n + (4 - n) = 4 by omega] at e1
  have e2 := lvr_succ X 0 (n - 1)
  rw [show n - 1 + 1 = n by omega, Nat.zero_add] at e2
  have hb := lvr_bd hX.ulx 0 (n - 1)
  have hw := wn_int hX
  rw [wv_lvr hX, e1, e2] at hw
  have hp := lpow_pos (n - 1)
  have e64 : (18446744073709551616 : Int) ^ (n - 1) = 2 ^ (64 * (n - 1)) := by rw [Int.pow_mul]; rfl
  have h2 : (2:Int) ^ len = 2 * 2 ^ (len - 1) := by
    obtain ⟨m, rfl⟩ : ∃ m, len = m + 1 := ⟨len - 1, by omega⟩
    rw [Int.pow_succ, Nat.add_sub_cancel, Int.mul_comm]
  have hL1 := hL.1
  have hL2 := hL.2 hnz
  have g1 : (2:Int) ^ (len - 1) * 18446744073709551616 ^ (n - 1) ≤ X.getD (n - 1) 0 * 18446744073709551616 ^ (n - 1) := Int.mul_le_mul_of_nonneg_right (by omega) (Int.le_of_lt hp)
  have g2 : (X.getD (n - 1) 0 + 1) * 18446744073709551616 ^ (n - 1) ≤ 2 ^ len * 18446744073709551616 ^ (n - 1) := Int.mul_le_mul_of_nonneg_right (by omega) (Int.le_of_lt hp)
  rw [Int.add_mul, Int.one_mul] at g2
  rw [e64, ← Int.pow_add] at g1 g2
  rw [e64] at hw hb
  refine ⟨hl, ?_, ?_⟩
  · have : ((2 ^ (64 * (n - 1) + (len - 1)) : Nat) : Int) ≤ (wn X : Int) := by
      rw [hw]; simp only [Int.natCast_pow, Int.cast_ofNat_Int]; rw [Nat.add_comm]; omega
    exact Int.ofNat_le.1 this
  · have : (wn X : Int) < ((2 ^ (64 * (n - 1) + len) : Nat) : Int) := by
      rw [hw]; simp only [Int.natCast_pow, Int.cast_ofNat_Int]; rw [Nat.add_comm (64 * (n - 1)) len]; omega
    exact Int.ofNat_lt.1 this
theorem mul_wn {P A : List Int} (hP : Wd P) (hA : Wd A) : wn (ofV (wv P * wv A % 115792089237316195423570985008687907853269984665640564039457584007913129639936)) = wn P * wn A % 115792089237316195423570985008687907853269984665640564039457584007913129639936 := by
  rw [wn_ofV (by omega) (by omega), ← wn_int hP, ← wn_int hA, ← Int.natCast_mul]
  omega
theorem top_one {x l : Nat} (h1 : 2 ^ l ≤ x) (h2 : x < 2 ^ (l + 1)) : x / 2 ^ l = 1 := by
  rw [Nat.pow_succ] at h2
  apply Nat.div_eq_of_lt_le <;> omega
theorem below_one {x l k : Nat} (h1 : 2 ^ l ≤ x) (hk : k ≤ l) : 1 ≤ x / 2 ^ k := by
  have := Nat.pow_le_pow_right (show 0 < 2 by decide) hk
  exact (Nat.le_div_iff_mul_le (Nat.pow_pos (by decide))).2 (by omega)

set_option maxRecDepth 10000 in
set_option maxHeartbeats 2000000 in
theorem exp_ex (W X : List Int) (w : World) (hW : Wd W) (hX : Wd X) : Ret Hvac.prog 251 #[.agg (ic .u64 W), .agg (ic .u64 X)] w fun u w' => Ext w w' ∧ ∃ R, u = .agg (ic .u64 R) ∧ Wd R ∧ wn R = ypow (wn W) (wn X) := by
  have hWl := hW.1
  have hXl := hX.1
  have h1d : Wd [1, 0, 0, 0] := wd1 (by decide)
  refine Ret_of_W Hvac.func251 rfl rfl ?_
  refine W_seq ?_
  refine W_region rfl ?_
  refine WO_box (.agg _) rfl ?_
  refine WO_box (.agg _) rfl ?_
  refine WO_alloc Hvac.zeroValue61 ?_
  refine WO_nil ?_
  refine thn_normal ?_
  refine W_seq ?_
  refine W_region rfl ?_
  refine WO_p (PS_buildI (k := .u64) (zs := [0, 0, 0, 0]) (ps := [(0, _)]) (L := [_, 0, 0, 0]) Hvac.zeroValue61 Hvac.runUnderlying61 Hvac.sizeOf26 rfl rfl rfl rfl) ?_
  refine WO_alloc Hvac.zeroValue61 ?_
  first | refine WO_storeW Hvac.sizeOf61 rfl (v := .agg _) rfl (Hb.h (by repeat (first | assumption | exact Hb.newY _ _ | refine Hb.alloc ?_ | refine Hb.drew ?_ | refine Hb.ext (by assumption) ?_ | exact Hb.setSameL (by first | omega | (simp only [size_alloc, size_setB, size_drew]; omega)) | exact Hb.setSame (by assumption) | refine Hb.set (by first | omega | (simp only [size_alloc, size_setB, size_drew]; omega)) ?_ ))) rfl (by first | omega | assumption | rfl | decide | exact Nat.le_refl _ | (simp only [size_ic, Value.cells]; omega) | (simp; omega) | simp) (by first | omega | assumption | rfl | decide | exact Nat.le_refl _ | (simp only [size_ic, Value.cells]; omega) | (simp; omega) | simp) (by first | exact oneCell_ic | assumption | exact one_Ws2 _ | exact one_YA2 _ | exact one_YSl2 _ | exact one_YM2 _ | exact one_YT2 _ | exact one_L2 _) ?_ | refine WO_store Hvac.sizeOf61 rfl (v := .agg _) rfl (Hb.h (by repeat (first | assumption | exact Hb.newY _ _ | refine Hb.alloc ?_ | refine Hb.drew ?_ | refine Hb.ext (by assumption) ?_ | exact Hb.setSameL (by first | omega | (simp only [size_alloc, size_setB, size_drew]; omega)) | exact Hb.setSame (by assumption) | refine Hb.set (by first | omega | (simp only [size_alloc, size_setB, size_drew]; omega)) ?_ ))) (by first | omega | assumption | rfl | decide | exact Nat.le_refl _ | (simp only [size_ic, Value.cells]; omega) | (simp; omega) | simp) (by first | omega | assumption | rfl | decide | exact Nat.le_refl _ | (simp only [size_ic, Value.cells]; omega) | (simp; omega) | simp) (by first | exact oneCell_ic | assumption | exact one_Ws2 _ | exact one_YA2 _ | exact one_YSl2 _ | exact one_YM2 _ | exact one_YT2 _ | exact one_L2 _) ?_
  refine WO_nil ?_
  refine thn_normal ?_
  refine W_seq ?_
  refine W_region rfl ?_
  refine WO_loadA _ Hvac.isAgg61 Hvac.sizeOf61 rfl (Hb.h (by repeat (first | assumption | exact Hb.newY _ _ | refine Hb.alloc ?_ | refine Hb.drew ?_ | refine Hb.ext (by assumption) ?_ | exact Hb.setSameL (by first | omega | (simp only [size_alloc, size_setB, size_drew]; omega)) | exact Hb.setSame (by assumption) | refine Hb.set (by first | omega | (simp only [size_alloc, size_setB, size_drew]; omega)) ?_ ))) (by first | omega | assumption | rfl | decide | exact Nat.le_refl _ | (simp only [size_ic, Value.cells]; omega) | (simp; omega) | simp) (Xt.h (by first | assumption | exact Xt.whole rfl rfl | exact Xt.whole rfl (by assumption) | exact Xt.whole rfl (by simp only [size_ic, Value.cells]; omega) | exact ⟨rfl⟩)) ?_
  refine WO_call Hvac.call228 (by rfl) (Ret.mono (limbs_ex X _ hX) ?_)
  rintro _ w1 ⟨hE1, n, rfl, hn4, hnz, hzz⟩
  have hz1 := hE1.1
  simp only [size_alloc, size_setB] at hz1
  have hA1 : Hb w1 w.heap.size (.cells (ic .u64 W) 61 (0, 0)) := Hb.ext hE1 (Hb.set (by simp only [size_alloc, size_setB]; omega) (Hb.alloc (Hb.alloc (Hb.alloc (Hb.newY _ _)))))
  have hX1 : Hb w1 ((w.alloc (.cells (Value.agg (ic .u64 W)).cells 61)).heap.size) (.cells (ic .u64 X) 61 (0, 0)) := Hb.ext hE1 (Hb.set (by simp only [size_alloc, size_setB]; omega) (Hb.alloc (Hb.alloc (Hb.newY _ _))))
  have hR1 : Hb w1 (((w.alloc (.cells (Value.agg (ic .u64 W)).cells 61)).alloc (.cells (Value.agg (ic .u64 X)).cells 61)).heap.size) (.cells (ic .u64 [0, 0, 0, 0]) 61 (0, 0)) := Hb.ext hE1 (Hb.set (by simp only [size_alloc, size_setB]; omega) (Hb.alloc (Hb.newY _ _)))
  have hP1 : Hb w1 ((((w.alloc (.cells (Value.agg (ic .u64 W)).cells 61)).alloc (.cells (Value.agg (ic .u64 X)).cells 61)).alloc (.cells (Value.agg #[.int .u64 0, .int .u64 0, .int .u64 0, .int .u64 0]).cells 61)).heap.size) (.cells (ic .u64 [1, 0, 0, 0]) 61 (0, 0)) := Hb.ext hE1 (Hb.setSame (Hb.newY _ _))
  replace hE1 : Ext w w1 := Ext.trans (Ext.setB (Ext.alloc (Ext.alloc (Ext.alloc (Ext.alloc (Ext.refl w) _) _) _) _) (by simp only [size_alloc, size_setB]; omega) _) hE1
  refine WO_p (PS_assign_int rfl) ?_
  refine WO_nil ?_
  refine thn_normal ?_
  refine W_seq ?_
  refine W_seq ?_
  refine W_region rfl ?_
  refine WO_p (PS_move_int rfl) ?_
  refine WO_p (PS_eql rfl rfl) ?_
  refine WO_nil ?_
  refine thn_normal ?_
  refine W_if rfl (fun hb3 => ?_) (fun hb3 => ?_)
  · have hb3p := hb3.h; try simp only [al_ete, al_dfn, Bool.not_eq_true', Bool.not_eq_false', al_ne, Bool.not_not, al_nn] at hb3p
    have hn0 := hb3p
    refine W_seq ?_
    refine W_region rfl ?_
    refine WO_loadA _ Hvac.isAgg61 Hvac.sizeOf61 rfl (Hb.h (by repeat (first | assumption | exact Hb.newY _ _ | refine Hb.alloc ?_ | refine Hb.drew ?_ | refine Hb.ext (by assumption) ?_ | exact Hb.setSameL (by first | omega | (simp only [size_alloc, size_setB, size_drew]; omega)) | exact Hb.setSame (by assumption) | refine Hb.set (by first | omega | (simp only [size_alloc, size_setB, size_drew]; omega)) ?_ ))) (by first | omega | assumption | rfl | decide | exact Nat.le_refl _ | (simp only [size_ic, Value.cells]; omega) | (simp; omega) | simp) (Xt.h (by first | assumption | exact Xt.whole rfl rfl | exact Xt.whole rfl (by assumption) | exact Xt.whole rfl (by simp only [size_ic, Value.cells]; omega) | exact ⟨rfl⟩)) ?_
    first | refine WO_storeW Hvac.sizeOf61 rfl (v := .agg _) rfl (Hb.h (by repeat (first | assumption | exact Hb.newY _ _ | refine Hb.alloc ?_ | refine Hb.drew ?_ | refine Hb.ext (by assumption) ?_ | exact Hb.setSameL (by first | omega | (simp only [size_alloc, size_setB, size_drew]; omega)) | exact Hb.setSame (by assumption) | refine Hb.set (by first | omega | (simp only [size_alloc, size_setB, size_drew]; omega)) ?_ ))) rfl (by first | omega | assumption | rfl | decide | exact Nat.le_refl _ | (simp only [size_ic, Value.cells]; omega) | (simp; omega) | simp) (by first | omega | assumption | rfl | decide | exact Nat.le_refl _ | (simp only [size_ic, Value.cells]; omega) | (simp; omega) | simp) (by first | exact oneCell_ic | assumption | exact one_Ws2 _ | exact one_YA2 _ | exact one_YSl2 _ | exact one_YM2 _ | exact one_YT2 _ | exact one_L2 _) ?_ | refine WO_store Hvac.sizeOf61 rfl (v := .agg _) rfl (Hb.h (by repeat (first | assumption | exact Hb.newY _ _ | refine Hb.alloc ?_ | refine Hb.drew ?_ | refine Hb.ext (by assumption) ?_ | exact Hb.setSameL (by first | omega | (simp only [size_alloc, size_setB, size_drew]; omega)) | exact Hb.setSame (by assumption) | refine Hb.set (by first | omega | (simp only [size_alloc, size_setB, size_drew]; omega)) ?_ ))) (by first | omega | assumption | rfl | decide | exact Nat.le_refl _ | (simp only [size_ic, Value.cells]; omega) | (simp; omega) | simp) (by first | omega | assumption | rfl | decide | exact Nat.le_refl _ | (simp only [size_ic, Value.cells]; omega) | (simp; omega) | simp) (by first | exact oneCell_ic | assumption | exact one_Ws2 _ | exact one_YA2 _ | exact one_YSl2 _ | exact one_YM2 _ | exact one_YT2 _ | exact one_L2 _) ?_
    refine WO_nil ?_
    refine thn_normal ?_
    refine W_ret ?_
    refine thn_ret ?_
    refine bodyQ_cell1 Hvac.results251 rfl Hvac.isAgg61 Hvac.sizeOf61 rfl (Hb.h (by repeat (first | assumption | exact Hb.newY _ _ | refine Hb.alloc ?_ | refine Hb.drew ?_ | refine Hb.ext (by assumption) ?_ | exact Hb.setSameL (by first | omega | (simp only [size_alloc, size_setB, size_drew]; omega)) | exact Hb.setSame (by assumption) | refine Hb.set (by first | omega | (simp only [size_alloc, size_setB, size_drew]; omega)) ?_ ))) (by first | omega | assumption | rfl | decide | exact Nat.le_refl _ | (simp only [size_ic, Value.cells]; omega) | (simp; omega) | simp) ?_
    first
    | exact ⟨(by repeat (first | assumption | exact Ext.refl _ | refine Ext.alloc ?_ _ | refine Ext.drew ?_ | refine Ext.setB ?_ (by first | omega | (simp only [size_alloc, size_setB, size_drew]; omega)) _ | refine Ext.trans ?_ (by assumption))), _, rfl, h1d, by have e0 := hzz 0 (by omega); have e1 := hzz 1 (by omega); have e2 := hzz 2 (by omega); have e3 := hzz 3 (by omega); obtain ⟨a, b, c, d, rfl, ha, hb, hc, hd⟩ := isZ hX; have e4 : wn [a, b, c, d] = 0 := (by simp at e0 e1 e2 e3; subst e0 e1 e2 e3; rfl); rw [e4]; rfl⟩
    | exact ⟨(by repeat (first | assumption | exact Ext.refl _ | refine Ext.alloc ?_ _ | refine Ext.drew ?_ | refine Ext.setB ?_ (by first | omega | (simp only [size_alloc, size_setB, size_drew]; omega)) _ | refine Ext.trans ?_ (by assumption))), _, rfl, Wd0, by rw [hAz] at hA4n; have h4 : wn [0, 0, 0, 0] = 0 := rfl; rw [h4] at hA4n; have h5 := below_one hlb1 (show k.toNat + 1 ≤ l.toNat by omega); obtain ⟨e, he⟩ : ∃ e, wn X / 2 ^ (k.toNat + 1) = e + 1 := ⟨_, (Nat.sub_add_cancel h5).symm⟩; rw [he] at hPn; rw [exp_none hPn hA4n.symm]; rfl⟩
    | exact ⟨(by repeat (first | assumption | exact Ext.refl _ | refine Ext.alloc ?_ _ | refine Ext.drew ?_ | refine Ext.setB ?_ (by first | omega | (simp only [size_alloc, size_setB, size_drew]; omega)) _ | refine Ext.trans ?_ (by assumption))), _, rfl, ofV_wd _, by rw [mul_wn hP hA, ← hinv, show k.toNat = l.toNat by omega, top_one hlb1 hlb2, Nat.pow_one]⟩
  · have hb3p := hb3.h; try simp only [al_ete, al_dfn, Bool.not_eq_true', Bool.not_eq_false', al_ne, Bool.not_not, al_nn] at hb3p
    have hn1i : ((n:Int) - 1).toNat = n - 1 := by omega
    have hce : Ce (ic .u64 X) (0 + ((n:Int) - 1).toNat * 1) (.int .u64 (X.getD ((n:Int) - 1).toNat 0)) := ce_ic (by omega)
    have hxb := wd_get hX ((n:Int) - 1).toNat
    refine W_skip ?_
    refine thn_normal ?_
    refine W_seq ?_
    refine W_region rfl ?_
    refine WO_p (PS_move_int rfl) ?_
    first | refine WO_p (PS_sub_u8n rfl rfl (by omega) (by omega)) ?_ | refine WO_p (PS_sub_u8w rfl rfl) ?_
    first | refine WO_p (PS_conv_i64n Hvac.runUnderlying5 Hvac.runUnderlying3 rfl (by omega) (by omega)) ?_ | refine WO_p (PS_conv_i64w Hvac.runUnderlying5 Hvac.runUnderlying3 rfl) ?_
    first | refine WO_p (PS_mul_i64n rfl rfl (by omega) (by omega)) ?_ | refine WO_p (PS_mul_i64w rfl rfl) ?_
    refine WO_p (PS_move_int rfl) ?_
    first | refine WO_p (PS_sub_u8n rfl rfl (by omega) (by omega)) ?_ | refine WO_p (PS_sub_u8w rfl rfl) ?_
    refine WO_p (PS_indexA Hvac.runUnderlying61 Hvac.sizeOf26 rfl rfl (by omega) (by omega)) ?_
    refine WO_load (.int _ _) Hvac.isAgg26 rfl (Hb.h (by repeat (first | assumption | exact Hb.newY _ _ | refine Hb.alloc ?_ | refine Hb.drew ?_ | refine Hb.ext (by assumption) ?_ | exact Hb.setSameL (by first | omega | (simp only [size_alloc, size_setB, size_drew]; omega)) | exact Hb.setSame (by assumption) | refine Hb.set (by first | omega | (simp only [size_alloc, size_setB, size_drew]; omega)) ?_ ))) (Ce.h (by first | assumption | exact ⟨rfl⟩)) ?_
    refine WO_call Hvac.call229 (by rfl) (Ret.mono (len64_spec _ _ (by omega)) ?_)
    rintro _ _ ⟨rfl, ln, rfl, hln, hLn⟩
    have hpl := pow_lt hX (show 0 < n by omega) hn4 hzz (by rw [hn1i] at hLn; exact hLn) (hnz (by omega))
    first | refine WO_p (PS_add_i64n rfl rfl (by omega) (by omega)) ?_ | refine WO_p (PS_add_i64w rfl rfl) ?_
    first | refine WO_p (PS_sub_i64n rfl rfl (by omega) (by omega)) ?_ | refine WO_p (PS_sub_i64w rfl rfl) ?_
    refine WO_p (PS_assign_int rfl) ?_
    refine WO_nil ?_
    refine thn_normal ?_
    refine W_seq ?_
    refine W_seq ?_
    refine W_region rfl ?_
    refine WO_p (PS_assign_int rfl) ?_
    refine WO_nil ?_
    refine thn_normal ?_
    refine W_block ?_
    refine W_loopN (fun m ρ w' => ∃ (k l : Int) (A P : List Int), Wd A ∧ Wd P ∧ 0 ≤ k ∧ l - k ≤ m ∧ l ≤ 255 ∧ (k ≤ l ∧ 2 ^ l.toNat ≤ wn X ∧ wn X < 2 ^ (l.toNat + 1) ∧ wn P * wn A ^ (wn X / 2 ^ k.toNat) % 115792089237316195423570985008687907853269984665640564039457584007913129639936 = ypow (wn W) (wn X)) ∧ Fr [(2, .pointer (some ⟨w.heap.size, 0, none⟩)), (3, .pointer (some ⟨(w.alloc (.cells (Value.agg (ic .u64 W)).cells 61)).heap.size, 0, none⟩)), (4, .pointer (some ⟨((w.alloc (.cells (Value.agg (ic .u64 W)).cells 61)).alloc (.cells (Value.agg (ic .u64 X)).cells 61)).heap.size, 0, none⟩)), (5, .pointer (some ⟨(((w.alloc (.cells (Value.agg (ic .u64 W)).cells 61)).alloc (.cells (Value.agg (ic .u64 X)).cells 61)).alloc (.cells (Value.agg #[.int .u64 0, .int .u64 0, .int .u64 0, .int .u64 0]).cells 61)).heap.size, 0, none⟩)), (7, .int .i64 l), (8, .int .i64 k)] ρ ∧ Ext w w' ∧ Hb w' w.heap.size (.cells (ic .u64 A) 61 (0, 0)) ∧ Hb w' ((w.alloc (.cells (Value.agg (ic .u64 W)).cells 61)).heap.size) (.cells (ic .u64 X) 61 (0, 0)) ∧ Hb w' (((w.alloc (.cells (Value.agg (ic .u64 W)).cells 61)).alloc (.cells (Value.agg (ic .u64 X)).cells 61)).heap.size) (.cells (ic .u64 [0, 0, 0, 0]) 61 (0, 0)) ∧ Hb w' ((((w.alloc (.cells (Value.agg (ic .u64 W)).cells 61)).alloc (.cells (Value.agg (ic .u64 X)).cells 61)).alloc (.cells (Value.agg #[.int .u64 0, .int .u64 0, .int .u64 0, .int .u64 0]).cells 61)).heap.size) (.cells (ic .u64 P) 61 (0, 0))) 256 ?_ ?_
    · exact ⟨0, _, W, [1, 0, 0, 0], hW, h1d, by omega, by omega, by omega, ⟨by omega, by rw [show (64 * ((n : Int) - 1) + (ln : Int) - 1).toNat = 64 * (n - 1) + (ln - 1) by omega]; exact hpl.2.1, by rw [show (64 * ((n : Int) - 1) + (ln : Int) - 1).toNat + 1 = 64 * (n - 1) + ln by omega]; exact hpl.2.2, by have e1 : wn [1, 0, 0, 0] = 1 := rfl; rw [e1, Nat.one_mul, show (0 : Int).toNat = 0 from rfl, Nat.pow_zero, Nat.div_one]; rfl⟩, ⟨rfl, rfl, rfl, rfl, rfl, rfl, trivial⟩, hE1, hA1, hX1, hR1, hP1⟩
    intro m ρ w2 hI
    obtain ⟨k, l, A, P, hA, hP, hk0, hkl, hl, ⟨hkll, hlb1, hlb2, hinv⟩, hF, hE2, hA2, hX2, hR2, hP2⟩ := hI
    clear hE1 hA1 hX1 hR1 hP1
    have hAl := hA.1
    have hPl := hP.1
    have hol := (ofV_wd (wv P * wv A % 115792089237316195423570985008687907853269984665640564039457584007913129639936)).1
    have hz2 := hP2.lt
    simp only [size_alloc, size_setB] at hz2
    refine W_env _ hF ?_
    refine W_seq ?_
    refine W_seq ?_
    refine W_region rfl ?_
    refine WO_p (PS_move_int rfl) ?_
    refine WO_p (PS_move_int rfl) ?_
    refine WO_p (PS_lss rfl rfl) ?_
    refine WO_nil ?_
    refine thn_normal ?_
    refine W_if rfl (fun hb6 => ?_) (fun hb6 => ?_)
    · have hb6p := hb6.h; try simp only [al_ete, al_dfn, Bool.not_eq_true', Bool.not_eq_false', al_ne, Bool.not_not, al_nn] at hb6p
      have hkd : k.toNat / 64 = (k / 64).toNat := by omega
      have hkm : k.toNat % 64 = min (k % 64).toNat 64 := by omega
      have hbs := bit_split (wn X) k.toNat
      have hce : Ce (ic .u64 X) (0 + (k / 64).toNat * 1) (.int .u64 (X.getD (k / 64).toNat 0)) := ce_ic (by omega)
      have hxb := wd_get hX (k / 64).toNat
      refine W_skip ?_
      refine thn_normal ?_
      refine W_seq ?_
      refine W_block ?_
      refine W_seq ?_
      refine W_seq ?_
      refine W_region rfl ?_
      refine WO_p (PS_move_int rfl) ?_
      refine WO_p (PS_quo_i64 rfl rfl (by omega) (by omega) (by omega)) ?_
      refine WO_p (PS_indexA Hvac.runUnderlying61 Hvac.sizeOf26 rfl rfl (by omega) (by omega)) ?_
      refine WO_load (.int _ _) Hvac.isAgg26 rfl (Hb.h (by repeat (first | assumption | exact Hb.newY _ _ | refine Hb.alloc ?_ | refine Hb.drew ?_ | refine Hb.ext (by assumption) ?_ | exact Hb.setSameL (by first | omega | (simp only [size_alloc, size_setB, size_drew]; omega)) | exact Hb.setSame (by assumption) | refine Hb.set (by first | omega | (simp only [size_alloc, size_setB, size_drew]; omega)) ?_ ))) (Ce.h (by first | assumption | exact ⟨rfl⟩)) ?_
      refine WO_p (PS_move_int rfl) ?_
      refine WO_p (PS_rem_i64 rfl rfl (by omega) (by omega)) ?_
      refine WO_p (PS_shr_u64 _ rfl rfl (by omega) rfl) ?_
      refine WO_p (PS_and_u64 rfl rfl) ?_
      refine WO_p (PS_neq rfl rfl) ?_
      refine WO_nil ?_
      refine thn_normal ?_
      refine W_if rfl (fun hb8 => ?_) (fun hb8 => ?_)
      · have hb8p := hb8.h; try simp only [al_ete, al_dfn, Bool.not_eq_true', Bool.not_eq_false', al_ne, Bool.not_not, al_nn] at hb8p
        have hbt := hb8p
        refine W_region rfl ?_
        refine WO_loadA _ Hvac.isAgg61 Hvac.sizeOf61 rfl (Hb.h (by repeat (first | assumption | exact Hb.newY _ _ | refine Hb.alloc ?_ | refine Hb.drew ?_ | refine Hb.ext (by assumption) ?_ | exact Hb.setSameL (by first | omega | (simp only [size_alloc, size_setB, size_drew]; omega)) | exact Hb.setSame (by assumption) | refine Hb.set (by first | omega | (simp only [size_alloc, size_setB, size_drew]; omega)) ?_ ))) (by first | omega | assumption | rfl | decide | exact Nat.le_refl _ | (simp only [size_ic, Value.cells]; omega) | (simp; omega) | simp) (Xt.h (by first | assumption | exact Xt.whole rfl rfl | exact Xt.whole rfl (by assumption) | exact Xt.whole rfl (by simp only [size_ic, Value.cells]; omega) | exact ⟨rfl⟩)) ?_
        refine WO_loadA _ Hvac.isAgg61 Hvac.sizeOf61 rfl (Hb.h (by repeat (first | assumption | exact Hb.newY _ _ | refine Hb.alloc ?_ | refine Hb.drew ?_ | refine Hb.ext (by assumption) ?_ | exact Hb.setSameL (by first | omega | (simp only [size_alloc, size_setB, size_drew]; omega)) | exact Hb.setSame (by assumption) | refine Hb.set (by first | omega | (simp only [size_alloc, size_setB, size_drew]; omega)) ?_ ))) (by first | omega | assumption | rfl | decide | exact Nat.le_refl _ | (simp only [size_ic, Value.cells]; omega) | (simp; omega) | simp) (Xt.h (by first | assumption | exact Xt.whole rfl rfl | exact Xt.whole rfl (by assumption) | exact Xt.whole rfl (by simp only [size_ic, Value.cells]; omega) | exact ⟨rfl⟩)) ?_
        refine WO_call Hvac.call62 (by rfl) (Ret.mono (mul_spec P A _ hP hA) ?_)
        rintro _ w3 ⟨rfl, hE3⟩
        have hz3 := hE3.1
        refine WO_storeW Hvac.sizeOf61 rfl (v := .agg _) rfl (Hb.h (Hb.ext hE3 hP2)) rfl (by first | omega | assumption | rfl | decide | exact Nat.le_refl _ | (simp only [size_ic, Value.cells]; omega) | (simp; omega) | simp) (by first | omega | assumption | rfl | decide | exact Nat.le_refl _ | (simp only [size_ic, Value.cells]; omega) | (simp; omega) | simp) (by first | exact oneCell_ic | assumption | exact one_Ws2 _ | exact one_YA2 _ | exact one_YSl2 _ | exact one_YM2 _ | exact one_YT2 _ | exact one_L2 _) ?_
        obtain ⟨P5, hP5, hPb, hPn⟩ : ∃ P5, Wd P5 ∧ Hb (setB w3 ((((w.alloc (.cells (Value.agg (ic .u64 W)).cells 61)).alloc (.cells (Value.agg (ic .u64 X)).cells 61)).alloc (.cells (Value.agg #[.int .u64 0, .int .u64 0, .int .u64 0, .int .u64 0]).cells 61)).heap.size) (.cells (ic .u64 (ofV (wv P * wv A % 115792089237316195423570985008687907853269984665640564039457584007913129639936))) 61 (0, 0))) ((((w.alloc (.cells (Value.agg (ic .u64 W)).cells 61)).alloc (.cells (Value.agg (ic .u64 X)).cells 61)).alloc (.cells (Value.agg #[.int .u64 0, .int .u64 0, .int .u64 0, .int .u64 0]).cells 61)).heap.size) (.cells (ic .u64 P5) 61 (0, 0)) ∧ wn P5 * (wn A * wn A % 115792089237316195423570985008687907853269984665640564039457584007913129639936) ^ (wn X / 2 ^ (k.toNat + 1)) % 115792089237316195423570985008687907853269984665640564039457584007913129639936 = ypow (wn W) (wn X) := ⟨_, ofV_wd _, Hb.setSame (Hb.ext hE3 hP2), by rw [mul_wn hP hA]; exact exp_odd (by rw [← hinv, hbs, if_pos (by rw [wn_bit hX (by omega), hkd, hkm]; exact (bit_and1 hxb _).1 hbt)])⟩
        refine WO_nil ?_
        refine thn_normal ?_
        refine W_seq ?_
        refine W_region rfl ?_
        refine WO_loadA _ Hvac.isAgg61 Hvac.sizeOf61 rfl (Hb.h (by repeat (first | assumption | exact Hb.newY _ _ | refine Hb.alloc ?_ | refine Hb.drew ?_ | refine Hb.ext (by assumption) ?_ | exact Hb.setSameL (by first | omega | (simp only [size_alloc, size_setB, size_drew]; omega)) | exact Hb.setSame (by assumption) | refine Hb.set (by first | omega | (simp only [size_alloc, size_setB, size_drew]; omega)) ?_ ))) (by first | omega | assumption | rfl | decide | exact Nat.le_refl _ | (simp only [size_ic, Value.cells]; omega) | (simp; omega) | simp) (Xt.h (by first | assumption | exact Xt.whole rfl rfl | exact Xt.whole rfl (by assumption) | exact Xt.whole rfl (by simp only [size_ic, Value.cells]; omega) | exact ⟨rfl⟩)) ?_
        refine WO_call Hvac.call344 (by rfl) (Ret.mono (square_ex A _ hA) ?_)
        rintro _ w4 ⟨hE4, A4, rfl, hA4, hA4n⟩
        have hz4 := hE4.1
        try simp only [size_setB] at hz4
        have hAl4 := hA4.1
        first | refine WO_storeW Hvac.sizeOf61 rfl (v := .agg _) rfl (Hb.h (by repeat (first | assumption | exact Hb.newY _ _ | refine Hb.alloc ?_ | refine Hb.drew ?_ | refine Hb.ext (by assumption) ?_ | exact Hb.setSameL (by first | omega | (simp only [size_alloc, size_setB, size_drew]; omega)) | exact Hb.setSame (by assumption) | refine Hb.set (by first | omega | (simp only [size_alloc, size_setB, size_drew]; omega)) ?_ ))) rfl (by first | omega | assumption | rfl | decide | exact Nat.le_refl _ | (simp only [size_ic, Value.cells]; omega) | (simp; omega) | simp) (by first | omega | assumption | rfl | decide | exact Nat.le_refl _ | (simp only [size_ic, Value.cells]; omega) | (simp; omega) | simp) (by first | exact oneCell_ic | assumption | exact one_Ws2 _ | exact one_YA2 _ | exact one_YSl2 _ | exact one_YM2 _ | exact one_YT2 _ | exact one_L2 _) ?_ | refine WO_store Hvac.sizeOf61 rfl (v := .agg _) rfl (Hb.h (by repeat (first | assumption | exact Hb.newY _ _ | refine Hb.alloc ?_ | refine Hb.drew ?_ | refine Hb.ext (by assumption) ?_ | exact Hb.setSameL (by first | omega | (simp only [size_alloc, size_setB, size_drew]; omega)) | exact Hb.setSame (by assumption) | refine Hb.set (by first | omega | (simp only [size_alloc, size_setB, size_drew]; omega)) ?_ ))) (by first | omega | assumption | rfl | decide | exact Nat.le_refl _ | (simp only [size_ic, Value.cells]; omega) | (simp; omega) | simp) (by first | omega | assumption | rfl | decide | exact Nat.le_refl _ | (simp only [size_ic, Value.cells]; omega) | (simp; omega) | simp) (by first | exact oneCell_ic | assumption | exact one_Ws2 _ | exact one_YA2 _ | exact one_YSl2 _ | exact one_YM2 _ | exact one_YT2 _ | exact one_L2 _) ?_
        refine WO_nil ?_
        refine thn_normal ?_
        refine W_seq ?_
        refine W_region rfl ?_
        refine WO_loadA _ Hvac.isAgg61 Hvac.sizeOf61 rfl (Hb.h (by repeat (first | assumption | exact Hb.newY _ _ | refine Hb.alloc ?_ | refine Hb.drew ?_ | refine Hb.ext (by assumption) ?_ | exact Hb.setSameL (by first | omega | (simp only [size_alloc, size_setB, size_drew]; omega)) | exact Hb.setSame (by assumption) | refine Hb.set (by first | omega | (simp only [size_alloc, size_setB, size_drew]; omega)) ?_ ))) (by first | omega | assumption | rfl | decide | exact Nat.le_refl _ | (simp only [size_ic, Value.cells]; omega) | (simp; omega) | simp) (Xt.h (by first | assumption | exact Xt.whole rfl rfl | exact Xt.whole rfl (by assumption) | exact Xt.whole rfl (by simp only [size_ic, Value.cells]; omega) | exact ⟨rfl⟩)) ?_
        refine WO_call Hvac.call223 (by rfl) (Ret.mono (isZero_spec A4 _ hA4) ?_)
        rintro _ w5 ⟨rfl, hE5⟩
        have hz5 := hE5.1
        try simp only [size_setB] at hz5
        refine WO_nil ?_
        refine thn_normal ?_
        refine W_if rfl (fun hb12 => ?_) (fun hb12 => ?_)
        · have hb12p := hb12.h; try simp only [al_ete, al_dfn, Bool.not_eq_true', Bool.not_eq_false', al_ne, Bool.not_not, al_nn] at hb12p
          have hAz := hb12p
          refine W_seq ?_
          refine W_region rfl ?_
          refine WO_p (PS_buildI (k := .u64) (zs := [0, 0, 0, 0]) (ps := []) (L := [0, 0, 0, 0]) Hvac.zeroValue61 Hvac.runUnderlying61 Hvac.sizeOf26 rfl rfl rfl rfl) ?_
          first | refine WO_storeW Hvac.sizeOf61 rfl (v := .agg _) rfl (Hb.h (by repeat (first | assumption | exact Hb.newY _ _ | refine Hb.alloc ?_ | refine Hb.drew ?_ | refine Hb.ext (by assumption) ?_ | exact Hb.setSameL (by first | omega | (simp only [size_alloc, size_setB, size_drew]; omega)) | exact Hb.setSame (by assumption) | refine Hb.set (by first | omega | (simp only [size_alloc, size_setB, size_drew]; omega)) ?_ ))) rfl (by first | omega | assumption | rfl | decide | exact Nat.le_refl _ | (simp only [size_ic, Value.cells]; omega) | (simp; omega) | simp) (by first | omega | assumption | rfl | decide | exact Nat.le_refl _ | (simp only [size_ic, Value.cells]; omega) | (simp; omega) | simp) (by first | exact oneCell_ic | assumption | exact one_Ws2 _ | exact one_YA2 _ | exact one_YSl2 _ | exact one_YM2 _ | exact one_YT2 _ | exact one_L2 _) ?_ | refine WO_store Hvac.sizeOf61 rfl (v := .agg _) rfl (Hb.h (by repeat (first | assumption | exact Hb.newY _ _ | refine Hb.alloc ?_ | refine Hb.drew ?_ | refine Hb.ext (by assumption) ?_ | exact Hb.setSameL (by first | omega | (simp only [size_alloc, size_setB, size_drew]; omega)) | exact Hb.setSame (by assumption) | refine Hb.set (by first | omega | (simp only [size_alloc, size_setB, size_drew]; omega)) ?_ ))) (by first | omega | assumption | rfl | decide | exact Nat.le_refl _ | (simp only [size_ic, Value.cells]; omega) | (simp; omega) | simp) (by first | omega | assumption | rfl | decide | exact Nat.le_refl _ | (simp only [size_ic, Value.cells]; omega) | (simp; omega) | simp) (by first | exact oneCell_ic | assumption | exact one_Ws2 _ | exact one_YA2 _ | exact one_YSl2 _ | exact one_YM2 _ | exact one_YT2 _ | exact one_L2 _) ?_
          refine WO_nil ?_
          refine thn_normal ?_
          refine W_ret ?_
          refine inBlk_ret ?_
          refine thn_ret ?_
          refine thn_ret ?_
          refine inBlk_ret ?_
          refine thn_ret ?_
          refine bodyQ_cell1 Hvac.results251 rfl Hvac.isAgg61 Hvac.sizeOf61 rfl (Hb.h (by repeat (first | assumption | exact Hb.newY _ _ | refine Hb.alloc ?_ | refine Hb.drew ?_ | refine Hb.ext (by assumption) ?_ | exact Hb.setSameL (by first | omega | (simp only [size_alloc, size_setB, size_drew]; omega)) | exact Hb.setSame (by assumption) | refine Hb.set (by first | omega | (simp only [size_alloc, size_setB, size_drew]; omega)) ?_ ))) (by first | omega | assumption | rfl | decide | exact Nat.le_refl _ | (simp only [size_ic, Value.cells]; omega) | (simp; omega) | simp) ?_
          first
          | exact ⟨(by repeat (first | assumption | exact Ext.refl _ | refine Ext.alloc ?_ _ | refine Ext.drew ?_ | refine Ext.setB ?_ (by first | omega | (simp only [size_alloc, size_setB, size_drew]; omega)) _ | refine Ext.trans ?_ (by assumption))), _, rfl, h1d, by have e0 := hzz 0 (by omega); have e1 := hzz 1 (by omega); have e2 := hzz 2 (by omega); have e3 := hzz 3 (by omega); obtain ⟨a, b, c, d, rfl, ha, hb, hc, hd⟩ := isZ hX; have e4 : wn [a, b, c, d] = 0 := (by simp at e0 e1 e2 e3; subst e0 e1 e2 e3; rfl); rw [e4]; rfl⟩
          | exact ⟨(by repeat (first | assumption | exact Ext.refl _ | refine Ext.alloc ?_ _ | refine Ext.drew ?_ | refine Ext.setB ?_ (by first | omega | (simp only [size_alloc, size_setB, size_drew]; omega)) _ | refine Ext.trans ?_ (by assumption))), _, rfl, Wd0, by rw [hAz] at hA4n; have h4 : wn [0, 0, 0, 0] = 0 := rfl; rw [h4] at hA4n; have h5 := below_one hlb1 (show k.toNat + 1 ≤ l.toNat by omega); obtain ⟨e, he⟩ : ∃ e, wn X / 2 ^ (k.toNat + 1) = e + 1 := ⟨_, (Nat.sub_add_cancel h5).symm⟩; rw [he] at hPn; rw [exp_none hPn hA4n.symm]; rfl⟩
          | exact ⟨(by repeat (first | assumption | exact Ext.refl _ | refine Ext.alloc ?_ _ | refine Ext.drew ?_ | refine Ext.setB ?_ (by first | omega | (simp only [size_alloc, size_setB, size_drew]; omega)) _ | refine Ext.trans ?_ (by assumption))), _, rfl, ofV_wd _, by rw [mul_wn hP hA, ← hinv, show k.toNat = l.toNat by omega, top_one hlb1 hlb2, Nat.pow_one]⟩
        · have hb12p := hb12.h; try simp only [al_ete, al_dfn, Bool.not_eq_true', Bool.not_eq_false', al_ne, Bool.not_not, al_nn] at hb12p
          refine W_skip ?_
          refine inBlk_normal ?_
          refine thn_normal ?_
          refine W_region rfl ?_
          refine WO_p (PS_move_int rfl) ?_
          first | refine WO_p (PS_add_i64n rfl rfl (by omega) (by omega)) ?_ | refine WO_p (PS_add_i64w rfl rfl) ?_
          refine WO_p (PS_assign_int rfl) ?_
          refine WO_nil ?_
          refine thn_normal ?_
          exact ⟨m - 1, by omega, k + 1, l, A4, P5, hA4, hP5, by omega, by omega, by omega, ⟨by omega, hlb1, hlb2, by rw [hA4n, show (k + 1).toNat = k.toNat + 1 by omega]; exact hPn⟩, ⟨rfl, rfl, rfl, rfl, rfl, rfl, trivial⟩, (by repeat (first | assumption | exact Ext.refl _ | refine Ext.alloc ?_ _ | refine Ext.drew ?_ | refine Ext.setB ?_ (by first | omega | (simp only [size_alloc, size_setB, size_drew]; omega)) _ | refine Ext.trans ?_ (by assumption))), (by (repeat (first | assumption | refine Hb.ext (by assumption) ?_ | exact Hb.setSame (by assumption) | exact Hb.setSameL (by first | omega | (simp only [size_alloc, size_setB, size_drew]; omega)) | refine Hb.set (by first | omega | (simp only [size_alloc, size_setB, size_drew]; omega)) ?_)); done), (by (repeat (first | assumption | refine Hb.ext (by assumption) ?_ | exact Hb.setSame (by assumption) | exact Hb.setSameL (by first | omega | (simp only [size_alloc, size_setB, size_drew]; omega)) | refine Hb.set (by first | omega | (simp only [size_alloc, size_setB, size_drew]; omega)) ?_)); done), (by (repeat (first | assumption | refine Hb.ext (by assumption) ?_ | exact Hb.setSame (by assumption) | exact Hb.setSameL (by first | omega | (simp only [size_alloc, size_setB, size_drew]; omega)) | refine Hb.set (by first | omega | (simp only [size_alloc, size_setB, size_drew]; omega)) ?_)); done), (by (repeat (first | assumption | refine Hb.ext (by assumption) ?_ | exact Hb.setSame (by assumption) | exact Hb.setSameL (by first | omega | (simp only [size_alloc, size_setB, size_drew]; omega)) | refine Hb.set (by first | omega | (simp only [size_alloc, size_setB, size_drew]; omega)) ?_)); done)⟩
      · have hb8p := hb8.h; try simp only [al_ete, al_dfn, Bool.not_eq_true', Bool.not_eq_false', al_ne, Bool.not_not, al_nn] at hb8p
        have hbt := hb8p
        obtain ⟨P5, hP5, hPb, hPn⟩ : ∃ P5, Wd P5 ∧ Hb w2 ((((w.alloc (.cells (Value.agg (ic .u64 W)).cells 61)).alloc (.cells (Value.agg (ic .u64 X)).cells 61)).alloc (.cells (Value.agg #[.int .u64 0, .int .u64 0, .int .u64 0, .int .u64 0]).cells 61)).heap.size) (.cells (ic .u64 P5) 61 (0, 0)) ∧ wn P5 * (wn A * wn A % 115792089237316195423570985008687907853269984665640564039457584007913129639936) ^ (wn X / 2 ^ (k.toNat + 1)) % 115792089237316195423570985008687907853269984665640564039457584007913129639936 = ypow (wn W) (wn X) := ⟨P, hP, hP2, exp_even (by rw [← hinv, hbs, if_neg (by rw [wn_bit hX (by omega), hkd, hkm]; intro h9; exact (bit_and1 hxb _).2 h9 hbt)]; rfl)⟩
        refine W_skip ?_
        refine thn_normal ?_
        refine W_seq ?_
        refine W_region rfl ?_
        refine WO_loadA _ Hvac.isAgg61 Hvac.sizeOf61 rfl (Hb.h (by repeat (first | assumption | exact Hb.newY _ _ | refine Hb.alloc ?_ | refine Hb.drew ?_ | refine Hb.ext (by assumption) ?_ | exact Hb.setSameL (by first | omega | (simp only [size_alloc, size_setB, size_drew]; omega)) | exact Hb.setSame (by assumption) | refine Hb.set (by first | omega | (simp only [size_alloc, size_setB, size_drew]; omega)) ?_ ))) (by first | omega | assumption | rfl | decide | exact Nat.le_refl _ | (simp only [size_ic, Value.cells]; omega) | (simp; omega) | simp) (Xt.h (by first | assumption | exact Xt.whole rfl rfl | exact Xt.whole rfl (by assumption) | exact Xt.whole rfl (by simp only [size_ic, Value.cells]; omega) | exact ⟨rfl⟩)) ?_
        refine WO_call Hvac.call344 (by rfl) (Ret.mono (square_ex A _ hA) ?_)
        rintro _ w4 ⟨hE4, A4, rfl, hA4, hA4n⟩
        have hz4 := hE4.1
        try simp only [size_setB] at hz4
        have hAl4 := hA4.1
        first | refine WO_storeW Hvac.sizeOf61 rfl (v := .agg _) rfl (Hb.h (by repeat (first | assumption | exact Hb.newY _ _ | refine Hb.alloc ?_ | refine Hb.drew ?_ | refine Hb.ext (by assumption) ?_ | exact Hb.setSameL (by first | omega | (simp only [size_alloc, size_setB, size_drew]; omega)) | exact Hb.setSame (by assumption) | refine Hb.set (by first | omega | (simp only [size_alloc, size_setB, size_drew]; omega)) ?_ ))) rfl (by first | omega | assumption | rfl | decide | exact Nat.le_refl _ | (simp only [size_ic, Value.cells]; omega) | (simp; omega) | simp) (by first | omega | assumption | rfl | decide | exact Nat.le_refl _ | (simp only [size_ic, Value.cells]; omega) | (simp; omega) | simp) (by first | exact oneCell_ic | assumption | exact one_Ws2 _ | exact one_YA2 _ | exact one_YSl2 _ | exact one_YM2 _ | exact one_YT2 _ | exact one_L2 _) ?_ | refine WO_store Hvac.sizeOf61 rfl (v := .agg _) rfl (Hb.h (by repeat (first | assumption | exact Hb.newY _ _ | refine Hb.alloc ?_ | refine Hb.drew ?_ | refine Hb.ext (by assumption) ?_ | exact Hb.setSameL (by first | omega | (simp only [size_alloc, size_setB, size_drew]; omega)) | exact Hb.setSame (by assumption) | refine Hb.set (by first | omega | (simp only [size_alloc, size_setB, size_drew]; omega)) ?_ ))) (by first | omega | assumption | rfl | decide | exact Nat.le_refl _ | (simp only [size_ic, Value.cells]; omega) | (simp; omega) | simp) (by first | omega | assumption | rfl | decide | exact Nat.le_refl _ | (simp only [size_ic, Value.cells]; omega) | (simp; omega) | simp) (by first | exact oneCell_ic | assumption | exact one_Ws2 _ | exact one_YA2 _ | exact one_YSl2 _ | exact one_YM2 _ | exact one_YT2 _ | exact one_L2 _) ?_
        refine WO_nil ?_
        refine thn_normal ?_
        refine W_seq ?_
        refine W_region rfl ?_
        refine WO_loadA _ Hvac.isAgg61 Hvac.sizeOf61 rfl (Hb.h (by repeat (first | assumption | exact Hb.newY _ _ | refine Hb.alloc ?_ | refine Hb.drew ?_ | refine Hb.ext (by assumption) ?_ | exact Hb.setSameL (by first | omega | (simp only [size_alloc, size_setB, size_drew]; omega)) | exact Hb.setSame (by assumption) | refine Hb.set (by first | omega | (simp only [size_alloc, size_setB, size_drew]; omega)) ?_ ))) (by first | omega | assumption | rfl | decide | exact Nat.le_refl _ | (simp only [size_ic, Value.cells]; omega) | (simp; omega) | simp) (Xt.h (by first | assumption | exact Xt.whole rfl rfl | exact Xt.whole rfl (by assumption) | exact Xt.whole rfl (by simp only [size_ic, Value.cells]; omega) | exact ⟨rfl⟩)) ?_
        refine WO_call Hvac.call223 (by rfl) (Ret.mono (isZero_spec A4 _ hA4) ?_)
        rintro _ w5 ⟨rfl, hE5⟩
        have hz5 := hE5.1
        try simp only [size_setB] at hz5
        refine WO_nil ?_
        refine thn_normal ?_
        refine W_if rfl (fun hb15 => ?_) (fun hb15 => ?_)
        · have hb15p := hb15.h; try simp only [al_ete, al_dfn, Bool.not_eq_true', Bool.not_eq_false', al_ne, Bool.not_not, al_nn] at hb15p
          have hAz := hb15p
          refine W_seq ?_
          refine W_region rfl ?_
          refine WO_p (PS_buildI (k := .u64) (zs := [0, 0, 0, 0]) (ps := []) (L := [0, 0, 0, 0]) Hvac.zeroValue61 Hvac.runUnderlying61 Hvac.sizeOf26 rfl rfl rfl rfl) ?_
          first | refine WO_storeW Hvac.sizeOf61 rfl (v := .agg _) rfl (Hb.h (by repeat (first | assumption | exact Hb.newY _ _ | refine Hb.alloc ?_ | refine Hb.drew ?_ | refine Hb.ext (by assumption) ?_ | exact Hb.setSameL (by first | omega | (simp only [size_alloc, size_setB, size_drew]; omega)) | exact Hb.setSame (by assumption) | refine Hb.set (by first | omega | (simp only [size_alloc, size_setB, size_drew]; omega)) ?_ ))) rfl (by first | omega | assumption | rfl | decide | exact Nat.le_refl _ | (simp only [size_ic, Value.cells]; omega) | (simp; omega) | simp) (by first | omega | assumption | rfl | decide | exact Nat.le_refl _ | (simp only [size_ic, Value.cells]; omega) | (simp; omega) | simp) (by first | exact oneCell_ic | assumption | exact one_Ws2 _ | exact one_YA2 _ | exact one_YSl2 _ | exact one_YM2 _ | exact one_YT2 _ | exact one_L2 _) ?_ | refine WO_store Hvac.sizeOf61 rfl (v := .agg _) rfl (Hb.h (by repeat (first | assumption | exact Hb.newY _ _ | refine Hb.alloc ?_ | refine Hb.drew ?_ | refine Hb.ext (by assumption) ?_ | exact Hb.setSameL (by first | omega | (simp only [size_alloc, size_setB, size_drew]; omega)) | exact Hb.setSame (by assumption) | refine Hb.set (by first | omega | (simp only [size_alloc, size_setB, size_drew]; omega)) ?_ ))) (by first | omega | assumption | rfl | decide | exact Nat.le_refl _ | (simp only [size_ic, Value.cells]; omega) | (simp; omega) | simp) (by first | omega | assumption | rfl | decide | exact Nat.le_refl _ | (simp only [size_ic, Value.cells]; omega) | (simp; omega) | simp) (by first | exact oneCell_ic | assumption | exact one_Ws2 _ | exact one_YA2 _ | exact one_YSl2 _ | exact one_YM2 _ | exact one_YT2 _ | exact one_L2 _) ?_
          refine WO_nil ?_
          refine thn_normal ?_
          refine W_ret ?_
          refine inBlk_ret ?_
          refine thn_ret ?_
          refine thn_ret ?_
          refine inBlk_ret ?_
          refine thn_ret ?_
          refine bodyQ_cell1 Hvac.results251 rfl Hvac.isAgg61 Hvac.sizeOf61 rfl (Hb.h (by repeat (first | assumption | exact Hb.newY _ _ | refine Hb.alloc ?_ | refine Hb.drew ?_ | refine Hb.ext (by assumption) ?_ | exact Hb.setSameL (by first | omega | (simp only [size_alloc, size_setB, size_drew]; omega)) | exact Hb.setSame (by assumption) | refine Hb.set (by first | omega | (simp only [size_alloc, size_setB, size_drew]; omega)) ?_ ))) (by first | omega | assumption | rfl | decide | exact Nat.le_refl _ | (simp only [size_ic, Value.cells]; omega) | (simp; omega) | simp) ?_
          first
          | exact ⟨(by repeat (first | assumption | exact Ext.refl _ | refine Ext.alloc ?_ _ | refine Ext.drew ?_ | refine Ext.setB ?_ (by first | omega | (simp only [size_alloc, size_setB, size_drew]; omega)) _ | refine Ext.trans ?_ (by assumption))), _, rfl, h1d, by have e0 := hzz 0 (by omega); have e1 := hzz 1 (by omega); have e2 := hzz 2 (by omega); have e3 := hzz 3 (by omega); obtain ⟨a, b, c, d, rfl, ha, hb, hc, hd⟩ := isZ hX; have e4 : wn [a, b, c, d] = 0 := (by simp at e0 e1 e2 e3; subst e0 e1 e2 e3; rfl); rw [e4]; rfl⟩
          | exact ⟨(by repeat (first | assumption | exact Ext.refl _ | refine Ext.alloc ?_ _ | refine Ext.drew ?_ | refine Ext.setB ?_ (by first | omega | (simp only [size_alloc, size_setB, size_drew]; omega)) _ | refine Ext.trans ?_ (by assumption))), _, rfl, Wd0, by rw [hAz] at hA4n; have h4 : wn [0, 0, 0, 0] = 0 := rfl; rw [h4] at hA4n; have h5 := below_one hlb1 (show k.toNat + 1 ≤ l.toNat by omega); obtain ⟨e, he⟩ : ∃ e, wn X / 2 ^ (k.toNat + 1) = e + 1 := ⟨_, (Nat.sub_add_cancel h5).symm⟩; rw [he] at hPn; rw [exp_none hPn hA4n.symm]; rfl⟩
          | exact ⟨(by repeat (first | assumption | exact Ext.refl _ | refine Ext.alloc ?_ _ | refine Ext.drew ?_ | refine Ext.setB ?_ (by first | omega | (simp only [size_alloc, size_setB, size_drew]; omega)) _ | refine Ext.trans ?_ (by assumption))), _, rfl, ofV_wd _, by rw [mul_wn hP hA, ← hinv, show k.toNat = l.toNat by omega, top_one hlb1 hlb2, Nat.pow_one]⟩
        · have hb15p := hb15.h; try simp only [al_ete, al_dfn, Bool.not_eq_true', Bool.not_eq_false', al_ne, Bool.not_not, al_nn] at hb15p
          refine W_skip ?_
          refine inBlk_normal ?_
          refine thn_normal ?_
          refine W_region rfl ?_
          refine WO_p (PS_move_int rfl) ?_
          first | refine WO_p (PS_add_i64n rfl rfl (by omega) (by omega)) ?_ | refine WO_p (PS_add_i64w rfl rfl) ?_
          refine WO_p (PS_assign_int rfl) ?_
          refine WO_nil ?_
          refine thn_normal ?_
          exact ⟨m - 1, by omega, k + 1, l, A4, P5, hA4, hP5, by omega, by omega, by omega, ⟨by omega, hlb1, hlb2, by rw [hA4n, show (k + 1).toNat = k.toNat + 1 by omega]; exact hPn⟩, ⟨rfl, rfl, rfl, rfl, rfl, rfl, trivial⟩, (by repeat (first | assumption | exact Ext.refl _ | refine Ext.alloc ?_ _ | refine Ext.drew ?_ | refine Ext.setB ?_ (by first | omega | (simp only [size_alloc, size_setB, size_drew]; omega)) _ | refine Ext.trans ?_ (by assumption))), (by (repeat (first | assumption | refine Hb.ext (by assumption) ?_ | exact Hb.setSame (by assumption) | exact Hb.setSameL (by first | omega | (simp only [size_alloc, size_setB, size_drew]; omega)) | refine Hb.set (by first | omega | (simp only [size_alloc, size_setB, size_drew]; omega)) ?_)); done), (by (repeat (first | assumption | refine Hb.ext (by assumption) ?_ | exact Hb.setSame (by assumption) | exact Hb.setSameL (by first | omega | (simp only [size_alloc, size_setB, size_drew]; omega)) | refine Hb.set (by first | omega | (simp only [size_alloc, size_setB, size_drew]; omega)) ?_)); done), (by (repeat (first | assumption | refine Hb.ext (by assumption) ?_ | exact Hb.setSame (by assumption) | exact Hb.setSameL (by first | omega | (simp only [size_alloc, size_setB, size_drew]; omega)) | refine Hb.set (by first | omega | (simp only [size_alloc, size_setB, size_drew]; omega)) ?_)); done), (by (repeat (first | assumption | refine Hb.ext (by assumption) ?_ | exact Hb.setSame (by assumption) | exact Hb.setSameL (by first | omega | (simp only [size_alloc, size_setB, size_drew]; omega)) | refine Hb.set (by first | omega | (simp only [size_alloc, size_setB, size_drew]; omega)) ?_)); done)⟩
    · have hb6p := hb6.h; try simp only [al_ete, al_dfn, Bool.not_eq_true', Bool.not_eq_false', al_ne, Bool.not_not, al_nn] at hb6p
      have hkl2 := hb6p
      refine W_exit ?_
      refine thn_exit ?_
      refine thn_exit ?_
      refine inBlk_exit ?_
      refine thn_normal ?_
      refine W_seq ?_
      refine W_region rfl ?_
      refine WO_loadA _ Hvac.isAgg61 Hvac.sizeOf61 rfl (Hb.h (by repeat (first | assumption | exact Hb.newY _ _ | refine Hb.alloc ?_ | refine Hb.drew ?_ | refine Hb.ext (by assumption) ?_ | exact Hb.setSameL (by first | omega | (simp only [size_alloc, size_setB, size_drew]; omega)) | exact Hb.setSame (by assumption) | refine Hb.set (by first | omega | (simp only [size_alloc, size_setB, size_drew]; omega)) ?_ ))) (by first | omega | assumption | rfl | decide | exact Nat.le_refl _ | (simp only [size_ic, Value.cells]; omega) | (simp; omega) | simp) (Xt.h (by first | assumption | exact Xt.whole rfl rfl | exact Xt.whole rfl (by assumption) | exact Xt.whole rfl (by simp only [size_ic, Value.cells]; omega) | exact ⟨rfl⟩)) ?_
      refine WO_loadA _ Hvac.isAgg61 Hvac.sizeOf61 rfl (Hb.h (by repeat (first | assumption | exact Hb.newY _ _ | refine Hb.alloc ?_ | refine Hb.drew ?_ | refine Hb.ext (by assumption) ?_ | exact Hb.setSameL (by first | omega | (simp only [size_alloc, size_setB, size_drew]; omega)) | exact Hb.setSame (by assumption) | refine Hb.set (by first | omega | (simp only [size_alloc, size_setB, size_drew]; omega)) ?_ ))) (by first | omega | assumption | rfl | decide | exact Nat.le_refl _ | (simp only [size_ic, Value.cells]; omega) | (simp; omega) | simp) (Xt.h (by first | assumption | exact Xt.whole rfl rfl | exact Xt.whole rfl (by assumption) | exact Xt.whole rfl (by simp only [size_ic, Value.cells]; omega) | exact ⟨rfl⟩)) ?_
      refine WO_call Hvac.call62 (by rfl) (Ret.mono (mul_spec P A _ hP hA) ?_)
      rintro _ w3 ⟨rfl, hE3⟩
      have hz3 := hE3.1
      first | refine WO_storeW Hvac.sizeOf61 rfl (v := .agg _) rfl (Hb.h (by repeat (first | assumption | exact Hb.newY _ _ | refine Hb.alloc ?_ | refine Hb.drew ?_ | refine Hb.ext (by assumption) ?_ | exact Hb.setSameL (by first | omega | (simp only [size_alloc, size_setB, size_drew]; omega)) | exact Hb.setSame (by assumption) | refine Hb.set (by first | omega | (simp only [size_alloc, size_setB, size_drew]; omega)) ?_ ))) rfl (by first | omega | assumption | rfl | decide | exact Nat.le_refl _ | (simp only [size_ic, Value.cells]; omega) | (simp; omega) | simp) (by first | omega | assumption | rfl | decide | exact Nat.le_refl _ | (simp only [size_ic, Value.cells]; omega) | (simp; omega) | simp) (by first | exact oneCell_ic | assumption | exact one_Ws2 _ | exact one_YA2 _ | exact one_YSl2 _ | exact one_YM2 _ | exact one_YT2 _ | exact one_L2 _) ?_ | refine WO_store Hvac.sizeOf61 rfl (v := .agg _) rfl (Hb.h (by repeat (first | assumption | exact Hb.newY _ _ | refine Hb.alloc ?_ | refine Hb.drew ?_ | refine Hb.ext (by assumption) ?_ | exact Hb.setSameL (by first | omega | (simp only [size_alloc, size_setB, size_drew]; omega)) | exact Hb.setSame (by assumption) | refine Hb.set (by first | omega | (simp only [size_alloc, size_setB, size_drew]; omega)) ?_ ))) (by first | omega | assumption | rfl | decide | exact Nat.le_refl _ | (simp only [size_ic, Value.cells]; omega) | (simp; omega) | simp) (by first | omega | assumption | rfl | decide | exact Nat.le_refl _ | (simp only [size_ic, Value.cells]; omega) | (simp; omega) | simp) (by first | exact oneCell_ic | assumption | exact one_Ws2 _ | exact one_YA2 _ | exact one_YSl2 _ | exact one_YM2 _ | exact one_YT2 _ | exact one_L2 _) ?_
      refine WO_nil ?_
      refine thn_normal ?_
      refine W_ret ?_
      refine bodyQ_cell1 Hvac.results251 rfl Hvac.isAgg61 Hvac.sizeOf61 rfl (Hb.h (by repeat (first | assumption | exact Hb.newY _ _ | refine Hb.alloc ?_ | refine Hb.drew ?_ | refine Hb.ext (by assumption) ?_ | exact Hb.setSameL (by first | omega | (simp only [size_alloc, size_setB, size_drew]; omega)) | exact Hb.setSame (by assumption) | refine Hb.set (by first | omega | (simp only [size_alloc, size_setB, size_drew]; omega)) ?_ ))) (by first | omega | assumption | rfl | decide | exact Nat.le_refl _ | (simp only [size_ic, Value.cells]; omega) | (simp; omega) | simp) ?_
      first
      | exact ⟨(by repeat (first | assumption | exact Ext.refl _ | refine Ext.alloc ?_ _ | refine Ext.drew ?_ | refine Ext.setB ?_ (by first | omega | (simp only [size_alloc, size_setB, size_drew]; omega)) _ | refine Ext.trans ?_ (by assumption))), _, rfl, h1d, by have e0 := hzz 0 (by omega); have e1 := hzz 1 (by omega); have e2 := hzz 2 (by omega); have e3 := hzz 3 (by omega); obtain ⟨a, b, c, d, rfl, ha, hb, hc, hd⟩ := isZ hX; have e4 : wn [a, b, c, d] = 0 := (by simp at e0 e1 e2 e3; subst e0 e1 e2 e3; rfl); rw [e4]; rfl⟩
      | exact ⟨(by repeat (first | assumption | exact Ext.refl _ | refine Ext.alloc ?_ _ | refine Ext.drew ?_ | refine Ext.setB ?_ (by first | omega | (simp only [size_alloc, size_setB, size_drew]; omega)) _ | refine Ext.trans ?_ (by assumption))), _, rfl, Wd0, by rw [hAz] at hA4n; have h4 : wn [0, 0, 0, 0] = 0 := rfl; rw [h4] at hA4n; have h5 := below_one hlb1 (show k.toNat + 1 ≤ l.toNat by omega); obtain ⟨e, he⟩ : ∃ e, wn X / 2 ^ (k.toNat + 1) = e + 1 := ⟨_, (Nat.sub_add_cancel h5).symm⟩; rw [he] at hPn; rw [exp_none hPn hA4n.symm]; rfl⟩
      | exact ⟨(by repeat (first | assumption | exact Ext.refl _ | refine Ext.alloc ?_ _ | refine Ext.drew ?_ | refine Ext.setB ?_ (by first | omega | (simp only [size_alloc, size_setB, size_drew]; omega)) _ | refine Ext.trans ?_ (by assumption))), _, rfl, ofV_wd _, by rw [mul_wn hP hA, ← hinv, show k.toNat = l.toNat by omega, top_one hlb1 hlb2, Nat.pow_one]⟩

end Go.Proofs.YgvacwGreat
