import Derived.Test.YgvacwGreatJe
import Derived.Test.YgvacwGreatUm
namespace Go.Proofs.YgvacwGreat
set_option linter.unusedSimpArgs false
set_option linter.unusedVariables false

set_option maxRecDepth 10000 in
theorem midHolds_ex (bu bvY nu nv cu cv n j : Nat) (Tu Tv : TypeId) (U Y : List Int) (w : World) (hU : Hb w bu (.cells (ic .u64 U) Tu (0, 0))) (hV : Hb w bvY (.cells (ic .u64 Y) Tv (0, 0))) (hul : U.length = nu) (hvl : Y.length = nv) (hn0 : 0 < n) (hnv : n ≤ nv) (hjn : j + n < nu) (hnu : nu ≤ 100) (hUL : UL U) (hYL : UL Y) (htop : 9223372036854775808 ≤ Y.getD (n - 1) 0) (hzero : ∀ k, j + n < k → U.getD k 0 = 0) (hlt : lvr U (j + 1) n < lvr Y 0 n) : Ret Hvac.prog 381 #[.slice (some ⟨bu, 0, none⟩) nu cu, .slice (some ⟨bvY, 0, none⟩) nv cv, .int .u8 n, .int .u8 j] w fun u w' => Ext w w' ∧ u = .bool true := by
  have hc0 : Ce (ic .u64 Y) (0 + ((n:Int) - 1).toNat * 1) (.int .u64 (Y.getD (n - 1) 0)) := by rw [show ((n:Int) - 1).toNat = n - 1 by omega]; exact ce_ic (by omega)
  have hy0 := hYL.get (n - 1)
  refine Ret_of_W Hvac.func381 rfl rfl ?_
  refine W_seq ?_
  refine W_region rfl ?_
  refine WO_p (PS_assign_bool rfl) ?_
  refine WO_nil ?_
  refine thn_normal ?_
  refine W_seq ?_
  refine W_seq ?_
  refine W_region rfl ?_
  refine WO_p (PS_move_slice rfl) ?_
  refine WO_p (PS_move_int rfl) ?_
  refine WO_p (PS_sub_u8n rfl rfl (by omega) (by omega)) ?_
  refine WO_p (PS_indexS Hvac.runUnderlying280 Hvac.sizeOf26 rfl rfl (by omega) (by omega)) ?_
  refine WO_load (.int _ _) Hvac.isAgg26 rfl (Hb.h (by repeat (first | assumption | exact Hb.newY _ _ | refine Hb.alloc ?_ | refine Hb.drew ?_ | refine Hb.ext (by assumption) ?_ | exact Hb.setSameL (by first | omega | (simp only [size_alloc, size_setB, size_drew]; omega)) | exact Hb.setSame (by assumption) | refine Hb.set (by first | omega | (simp only [size_alloc, size_setB, size_drew]; omega)) ?_ ))) (Ce.h (by first | assumption | exact ⟨rfl⟩)) ?_
  refine WO_p (PS_shr_u64 63 rfl rfl (by decide) rfl) ?_
  refine WO_p (PS_eql rfl rfl) ?_
  refine WO_nil ?_
  refine thn_normal ?_
  refine W_if rfl (fun hb2 => ?_) (fun hb2 => ?_)
  · have hb2p := hb2.h; try simp only [al_ete, al_dfn, Bool.not_eq_true', Bool.not_eq_false', al_ne, Bool.not_not, al_nn] at hb2p
    exfalso; omega --END
  · have hb2p := hb2.h; try simp only [al_ete, al_dfn, Bool.not_eq_true', Bool.not_eq_false', al_ne, Bool.not_not, al_nn] at hb2p
    refine W_skip ?_
    refine thn_normal ?_
    refine W_seq ?_
    refine W_seq ?_
    refine W_region rfl ?_
    refine WO_p (PS_move_int rfl) ?_
    refine WO_p (PS_conv_i64n Hvac.runUnderlying5 Hvac.runUnderlying3 rfl (by omega) (by omega)) ?_
    refine WO_p (PS_move_int rfl) ?_
    refine WO_p (PS_conv_i64n Hvac.runUnderlying5 Hvac.runUnderlying3 rfl (by omega) (by omega)) ?_
    refine WO_p (PS_add_i64n rfl rfl (by omega) (by omega)) ?_
    refine WO_p (PS_add_i64n rfl rfl (by omega) (by omega)) ?_
    refine WO_p (PS_assign_int rfl) ?_
    refine WO_nil ?_
    refine thn_normal ?_
    refine W_block ?_
    refine W_loopN (fun m ρ w' => ∃ i : Nat, j + n + 1 ≤ i ∧ i ≤ nu ∧ nu - i ≤ m ∧ Fr [(0, .slice (some ⟨bu, 0, none⟩) nu cu), (1, .slice (some ⟨bvY, 0, none⟩) nv cv), (2, .int .u8 n), (3, .int .u8 j), (9, .int .i64 i)] ρ ∧ Ext w w' ∧ Hb w' bu (.cells (ic .u64 U) Tu (0, 0)) ∧ Hb w' bvY (.cells (ic .u64 Y) Tv (0, 0))) nu ?_ ?_
    · exact ⟨j + n + 1, by omega, by omega, by omega, ⟨rfl, rfl, rfl, rfl, congrArg (Value.int .i64) (by omega), trivial⟩, Ext.refl _, hU, hV⟩
    intro m ρ w2 hI
    obtain ⟨i, hi0, hi1, him, hF, hE2, hU2, hV2⟩ := hI
    refine W_env _ hF ?_
    refine W_seq ?_
    refine W_seq ?_
    refine W_region rfl ?_
    refine WO_p (PS_move_int rfl) ?_
    refine WO_p (PS_move_slice rfl) ?_
    refine WO_p (PS_lenS Hvac.runUnderlying280 rfl) ?_
    refine WO_p (PS_lss rfl rfl) ?_
    refine WO_nil ?_
    refine thn_normal ?_
    refine W_if rfl (fun hb4 => ?_) (fun hb4 => ?_)
    · have hb4p := hb4.h; try simp only [al_ete, al_dfn, Bool.not_eq_true', Bool.not_eq_false', al_ne, Bool.not_not, al_nn] at hb4p
      have hce : Ce (ic .u64 U) (0 + ((i:Int)).toNat * 1) (.int .u64 (U.getD i 0)) := by rw [show ((i:Int)).toNat = i from Int.toNat_natCast i]; exact ce_ic (by omega)
      have hzi := hzero i (by omega)
      refine W_skip ?_
      refine thn_normal ?_
      refine W_seq ?_
      refine W_block ?_
      refine W_seq ?_
      refine W_region rfl ?_
      refine WO_p (PS_move_slice rfl) ?_
      refine WO_p (PS_move_int rfl) ?_
      refine WO_p (PS_indexS Hvac.runUnderlying280 Hvac.sizeOf26 rfl rfl (by omega) (by omega)) ?_
      refine WO_load (.int _ _) Hvac.isAgg26 rfl (Hb.h (by repeat (first | assumption | exact Hb.newY _ _ | refine Hb.alloc ?_ | refine Hb.drew ?_ | refine Hb.ext (by assumption) ?_ | exact Hb.setSameL (by first | omega | (simp only [size_alloc, size_setB, size_drew]; omega)) | exact Hb.setSame (by assumption) | refine Hb.set (by first | omega | (simp only [size_alloc, size_setB, size_drew]; omega)) ?_ ))) (Ce.h (by first | assumption | exact ⟨rfl⟩)) ?_
      refine WO_p (PS_neq rfl rfl) ?_
      refine WO_nil ?_
      refine thn_normal ?_
      refine W_if rfl (fun hb6 => ?_) (fun hb6 => ?_)
      · have hb6p := hb6.h; try simp only [al_ete, al_dfn, Bool.not_eq_true', Bool.not_eq_false', al_ne, Bool.not_not, al_nn] at hb6p
        exfalso; omega --END
      · have hb6p := hb6.h; try simp only [al_ete, al_dfn, Bool.not_eq_true', Bool.not_eq_false', al_ne, Bool.not_not, al_nn] at hb6p
        refine W_skip ?_
        refine inBlk_normal ?_
        refine thn_normal ?_
        refine W_region rfl ?_
        refine WO_p (PS_move_int rfl) ?_
        refine WO_p (PS_add_i64n rfl rfl (by omega) (by omega)) ?_
        refine WO_p (PS_assign_int rfl) ?_
        refine WO_nil ?_
        refine thn_normal ?_
        exact ⟨m - 1, by omega, i + 1, by omega, by omega, by omega, ⟨rfl, rfl, rfl, rfl, congrArg (Value.int .i64) (by omega), trivial⟩, hE2, hU2, hV2⟩
    · have hb4p := hb4.h; try simp only [al_ete, al_dfn, Bool.not_eq_true', Bool.not_eq_false', al_ne, Bool.not_not, al_nn] at hb4p
      refine W_exit ?_
      refine thn_exit ?_
      refine thn_exit ?_
      refine inBlk_exit ?_
      refine thn_normal ?_
      refine W_seq ?_
      refine W_seq ?_
      refine W_region rfl ?_
      refine WO_p (PS_move_int rfl) ?_
      refine WO_p (PS_assign_int rfl) ?_
      refine WO_nil ?_
      refine thn_normal ?_
      refine W_block ?_
      refine W_loopN (fun m ρ w' => m ≤ n ∧ (∀ k, m ≤ k → k < n → U.getD (j + 1 + k) 0 = Y.getD k 0) ∧ Fr [(0, .slice (some ⟨bu, 0, none⟩) nu cu), (1, .slice (some ⟨bvY, 0, none⟩) nv cv), (2, .int .u8 n), (3, .int .u8 j), (10, .int .u8 m)] ρ ∧ Ext w w' ∧ Hb w' bu (.cells (ic .u64 U) Tu (0, 0)) ∧ Hb w' bvY (.cells (ic .u64 Y) Tv (0, 0))) n ?_ ?_
      · exact ⟨Nat.le_refl _, fun k h1 h2 => by omega, ⟨rfl, rfl, rfl, rfl, rfl, trivial⟩, hE2, hU2, hV2⟩
      clear hE2 hU2 hV2
      intro i2 ρ2 w3 hI
      obtain ⟨hi2, heq, hF2, hE3, hU3, hV3⟩ := hI
      refine W_env _ hF2 ?_
      refine W_seq ?_
      refine W_seq ?_
      refine W_region rfl ?_
      refine WO_p (PS_move_int rfl) ?_
      refine WO_p (PS_gtr rfl rfl) ?_
      refine WO_nil ?_
      refine thn_normal ?_
      refine W_if rfl (fun hb8 => ?_) (fun hb8 => ?_)
      · have hb8p := hb8.h; try simp only [al_ete, al_dfn, Bool.not_eq_true', Bool.not_eq_false', al_ne, Bool.not_not, al_nn] at hb8p
        have hce1 : Ce (ic .u64 U) (0 + ((j:Int) + (i2:Int)).toNat * 1) (.int .u64 (U.getD (j + i2) 0)) := by rw [show ((j:Int) + (i2:Int)).toNat = j + i2 by omega]; exact ce_ic (by omega)
        have hce2 : Ce (ic .u64 Y) (0 + ((i2:Int) - 1).toNat * 1) (.int .u64 (Y.getD (i2 - 1) 0)) := by rw [show ((i2:Int) - 1).toNat = i2 - 1 by omega]; exact ce_ic (by omega)
        refine W_skip ?_
        refine thn_normal ?_
        refine W_seq ?_
        refine W_block ?_
        refine W_seq ?_
        refine W_drawE [false, false, false, false, false, false, false, false, false, false, false, false] hmix (by kernel_rfl) rfl ?_
        refine WH_p (PS_move_slice rfl) rfl ?_
        refine WH_p (PS_move_int rfl) rfl ?_
        refine WH_p (PS_move_int rfl) rfl ?_
        refine WH_p (PS_add_u8n rfl rfl (by omega) (by omega)) rfl ?_
        refine WH_p (PS_indexS Hvac.runUnderlying280 Hvac.sizeOf26 rfl rfl (by omega) (by omega)) rfl ?_
        refine WH_load (.int _ _) Hvac.isAgg26 rfl (Hb.h (by repeat (first | assumption | exact Hb.newY _ _ | refine Hb.alloc ?_ | refine Hb.drew ?_ | refine Hb.ext (by assumption) ?_ | exact Hb.setSameL (by first | omega | (simp only [size_alloc, size_setB, size_drew]; omega)) | exact Hb.setSame (by assumption) | refine Hb.set (by first | omega | (simp only [size_alloc, size_setB, size_drew]; omega)) ?_ ))) (Ce.h (by first | assumption | exact ⟨rfl⟩)) ?_
        refine WH_p (PS_move_slice rfl) rfl ?_
        refine WH_p (PS_move_int rfl) rfl ?_
        refine WH_p (PS_sub_u8n rfl rfl (by omega) (by omega)) rfl ?_
        refine WH_p (PS_indexS Hvac.runUnderlying280 Hvac.sizeOf26 rfl rfl (by omega) (by omega)) rfl ?_
        refine WH_load (.int _ _) Hvac.isAgg26 rfl (Hb.h (by repeat (first | assumption | exact Hb.newY _ _ | refine Hb.alloc ?_ | refine Hb.drew ?_ | refine Hb.ext (by assumption) ?_ | exact Hb.setSameL (by first | omega | (simp only [size_alloc, size_setB, size_drew]; omega)) | exact Hb.setSame (by assumption) | refine Hb.set (by first | omega | (simp only [size_alloc, size_setB, size_drew]; omega)) ?_ ))) (Ce.h (by first | assumption | exact ⟨rfl⟩)) ?_
        refine WH_p (PS_neq rfl rfl) rfl ?_
        refine WH_nil ?_
        refine thn_normal ?_
        refine W_if rfl (fun hb10 => ?_) (fun hb10 => ?_)
        · have hb10p := hb10.h; try simp only [al_ete, al_dfn, Bool.not_eq_true', Bool.not_eq_false', al_ne, Bool.not_not, al_nn] at hb10p
          have hneq := hb10p
          have hlt2 : U.getD (j + i2) 0 < Y.getD (i2 - 1) 0 := by
            rcases Int.lt_or_le (U.getD (j + i2) 0) (Y.getD (i2 - 1) 0) with h9 | h9
            · exact h9
            · exfalso
              have h8 := lvr_lt_at hYL hUL (ou := 0) (ov := j + 1) (i := i2 - 1) (n - i2) (fun k h1 h2 => by rw [Nat.zero_add]; exact (heq k (by omega) (by omega)).symm) (by rw [Nat.zero_add, show j + 1 + (i2 - 1) = j + i2 by omega]; omega)
              rw [show i2 - 1 + 1 + (n - i2) = n by omega] at h8
              omega
          refine W_seq ?_
          refine W_drawE [false, false, false, false, false, false, false, false, false, false, false, false, false] hmix (by kernel_rfl) rfl ?_
          refine WH_p (PS_move_slice rfl) rfl ?_
          refine WH_p (PS_move_int rfl) rfl ?_
          refine WH_p (PS_move_int rfl) rfl ?_
          refine WH_p (PS_add_u8n rfl rfl (by omega) (by omega)) rfl ?_
          refine WH_p (PS_indexS Hvac.runUnderlying280 Hvac.sizeOf26 rfl rfl (by omega) (by omega)) rfl ?_
          refine WH_load (.int _ _) Hvac.isAgg26 rfl (Hb.h (by repeat (first | assumption | exact Hb.newY _ _ | refine Hb.alloc ?_ | refine Hb.drew ?_ | refine Hb.ext (by assumption) ?_ | exact Hb.setSameL (by first | omega | (simp only [size_alloc, size_setB, size_drew]; omega)) | exact Hb.setSame (by assumption) | refine Hb.set (by first | omega | (simp only [size_alloc, size_setB, size_drew]; omega)) ?_ ))) (Ce.h (by first | assumption | exact ⟨rfl⟩)) ?_
          refine WH_p (PS_move_slice rfl) rfl ?_
          refine WH_p (PS_move_int rfl) rfl ?_
          refine WH_p (PS_sub_u8n rfl rfl (by omega) (by omega)) rfl ?_
          refine WH_p (PS_indexS Hvac.runUnderlying280 Hvac.sizeOf26 rfl rfl (by omega) (by omega)) rfl ?_
          refine WH_load (.int _ _) Hvac.isAgg26 rfl (Hb.h (by repeat (first | assumption | exact Hb.newY _ _ | refine Hb.alloc ?_ | refine Hb.drew ?_ | refine Hb.ext (by assumption) ?_ | exact Hb.setSameL (by first | omega | (simp only [size_alloc, size_setB, size_drew]; omega)) | exact Hb.setSame (by assumption) | refine Hb.set (by first | omega | (simp only [size_alloc, size_setB, size_drew]; omega)) ?_ ))) (Ce.h (by first | assumption | exact ⟨rfl⟩)) ?_
          refine WH_p (PS_lss rfl rfl) rfl ?_
          refine WH_p (PS_assign_bool rfl) rfl ?_
          refine WH_nil ?_
          refine thn_normal ?_
          refine W_ret ?_
          refine inBlk_ret ?_
          refine thn_ret ?_
          refine thn_ret ?_
          refine inBlk_ret ?_
          refine thn_ret ?_
          refine bodyQ_ret1 Hvac.results381 rfl (.bool _) rfl ?_
          exact ⟨Ext.drew (Ext.drew hE3), congrArg Value.bool (al_et hlt2)⟩
        · have hb10p := hb10.h; try simp only [al_ete, al_dfn, Bool.not_eq_true', Bool.not_eq_false', al_ne, Bool.not_not, al_nn] at hb10p
          have hequ := hb10p
          refine W_skip ?_
          refine inBlk_normal ?_
          refine thn_normal ?_
          refine W_region rfl ?_
          refine WO_p (PS_move_int rfl) ?_
          refine WO_p (PS_sub_u8n rfl rfl (by omega) (by omega)) ?_
          refine WO_p (PS_assign_int rfl) ?_
          refine WO_nil ?_
          refine thn_normal ?_
          exact ⟨i2 - 1, by omega, by omega, fun k h1 h2 => by rcases Nat.lt_or_ge k i2 with h9 | h9; (· rw [show j + 1 + k = j + i2 by omega, show k = i2 - 1 by omega]; exact hequ); exact heq k h9 h2, ⟨rfl, rfl, rfl, rfl, congrArg (Value.int .u8) (by omega), trivial⟩, hE3.drew, hU3.drew, hV3.drew⟩
      · have hb8p := hb8.h; try simp only [al_ete, al_dfn, Bool.not_eq_true', Bool.not_eq_false', al_ne, Bool.not_not, al_nn] at hb8p
        exfalso
        have h9 := lvr_congr (L := Y) (L' := U) (o := 0) (o' := j + 1) n (fun k hk => by rw [Nat.zero_add]; exact heq k (by omega) hk)
        omega --END

set_option maxRecDepth 10000 in
theorem roundD_ex (bu bvY n cu cv : Nat) (ou ov : Nat) (Tu Tv : TypeId) (U Y : List Int) (w : World) (hU : Hb w bu (.cells (ic .u64 U) Tu (0, 0))) (hV : Hb w bvY (.cells (ic .u64 Y) Tv (0, 0))) (hne : bu ≠ bvY) (hUL : UL U) (hYL : UL Y) (hun : ou + n + 1 ≤ U.length) (hvn : ov + n ≤ Y.length) (hn2 : 2 ≤ n) (hn : n ≤ 1000) (htop : 9223372036854775808 ≤ Y.getD (ov + (n - 1)) 0) (hlt : lvr U (ou + 1) n < lvr Y ov n) : Ret Hvac.prog 377 #[.slice (some ⟨bu, ou, none⟩) (n + 1) cu, .slice (some ⟨bvY, ov, none⟩) n cv] w fun u w' => ∃ (q f : Int) (z : Bool), u = .tuple #[.int .u64 q, .int .u8 f, .bool z] ∧ (0 ≤ q ∧ q ≤ 18446744073709551615) ∧ (0 ≤ f ∧ f ≤ 255) ∧ TurnX bu Tu U w w' fun L' => (q = lvr U ou (n + 1) / lvr Y ov n ∧ lvr L' ou (n + 1) = lvr U ou (n + 1) % lvr Y ov n) ∧ (∀ k, k < ou ∨ ou + n < k → L'.getD k 0 = U.getD k 0) := by
  have c0 : Ce (ic .u64 U) (ou + ((n:Int)).toNat * 1) (.int .u64 (U.getD (ou + n) 0)) := by rw [show ((n:Int)).toNat = n by omega]; exact ce_icO (by omega)
  have c0b := hUL.get (ou + n)
  have c1 : Ce (ic .u64 U) (ou + ((n:Int) - 1).toNat * 1) (.int .u64 (U.getD (ou + (n - 1)) 0)) := by rw [show ((n:Int) - 1).toNat = (n - 1) by omega]; exact ce_icO (by omega)
  have c1b := hUL.get (ou + (n - 1))
  have c2 : Ce (ic .u64 U) (ou + ((n:Int) - 2).toNat * 1) (.int .u64 (U.getD (ou + (n - 2)) 0)) := by rw [show ((n:Int) - 2).toNat = (n - 2) by omega]; exact ce_icO (by omega)
  have c2b := hUL.get (ou + (n - 2))
  have c3 : Ce (ic .u64 Y) (ov + ((n:Int) - 1).toNat * 1) (.int .u64 (Y.getD (ov + (n - 1)) 0)) := by rw [show ((n:Int) - 1).toNat = (n - 1) by omega]; exact ce_icO (by omega)
  have c3b := hYL.get (ov + (n - 1))
  have c4 : Ce (ic .u64 Y) (ov + ((n:Int) - 2).toNat * 1) (.int .u64 (Y.getD (ov + (n - 2)) 0)) := by rw [show ((n:Int) - 2).toNat = (n - 2) by omega]; exact ce_icO (by omega)
  have c4b := hYL.get (ov + (n - 2))
  have htl := lvr_top_le hUL hYL (by omega) hlt
  rw [show ou + 1 + (n - 1) = ou + n by omega] at htl
  have hV3 := lvr_two (L := Y) (o := ov) hn2
  have hU3 := lvr_three (L := U) (o := ou) hn2
  have hbu := lvr_bd hUL ou (n - 2)
  have hbv := lvr_bd hYL ov (n - 2)
  have hbV := lvr_bd hYL ov n
  have hbU := lvr_bd hUL ou (n + 1)
  have hhd := lvr_head U ou n
  have hu0 := hUL.get ou
  have hpp := lpow_pos (n - 2)
  have hVp : 0 < lvr Y ov n := by have h1 := lvr_pow hYL (o := ov) (n := n) (by omega) (by omega); have h2 := lpow_pos (n - 1); omega
  have hBV : lvr U ou (n + 1) < 18446744073709551616 * lvr Y ov n := by omega
  refine Ret_of_W Hvac.func377 rfl rfl ?_
  refine W_seq ?_
  refine W_region rfl ?_
  refine WO_p (PS_assign_int rfl) ?_
  refine WO_p (PS_assign_int rfl) ?_
  refine WO_p (PS_assign_bool rfl) ?_
  refine WO_nil ?_
  refine thn_normal ?_
  refine W_seq ?_
  refine W_region rfl ?_
  refine WO_p (PS_move_slice rfl) ?_
  refine WO_p (PS_lenS Hvac.runUnderlying280 rfl) ?_
  refine WO_p (PS_assign_int rfl) ?_
  refine WO_nil ?_
  refine thn_normal ?_
  refine W_seq ?_
  refine W_drawE [false, false, false, false, false, false, false, false, false, false, false, false, false, false, false, false, false, false, false, false, false, false, false, false, false, false, false, false, false, false] hmix (by kernel_rfl) rfl ?_
  refine WH_p (PS_move_slice rfl) rfl ?_
  refine WH_p (PS_move_int rfl) rfl ?_
  refine WH_p (PS_indexS Hvac.runUnderlying280 Hvac.sizeOf26 rfl rfl (by omega) (by omega)) rfl ?_
  refine WH_load (.int _ _) Hvac.isAgg26 rfl (Hb.h (by repeat (first | assumption | exact Hb.newY _ _ | refine Hb.alloc ?_ | refine Hb.drew ?_ | refine Hb.ext (by assumption) ?_ | exact Hb.setSameL (by first | omega | (simp only [size_alloc, size_setB, size_drew]; omega)) | exact Hb.setSame (by assumption) | refine Hb.set (by first | omega | (simp only [size_alloc, size_setB, size_drew]; omega)) ?_ ))) (Ce.h (by first | assumption | exact ⟨rfl⟩)) ?_
  refine WH_p (PS_move_slice rfl) rfl ?_
  refine WH_p (PS_move_int rfl) rfl ?_
  refine WH_p (PS_sub_i64n rfl rfl (by omega) (by omega)) rfl ?_
  refine WH_p (PS_indexS Hvac.runUnderlying280 Hvac.sizeOf26 rfl rfl (by omega) (by omega)) rfl ?_
  refine WH_load (.int _ _) Hvac.isAgg26 rfl (Hb.h (by repeat (first | assumption | exact Hb.newY _ _ | refine Hb.alloc ?_ | refine Hb.drew ?_ | refine Hb.ext (by assumption) ?_ | exact Hb.setSameL (by first | omega | (simp only [size_alloc, size_setB, size_drew]; omega)) | exact Hb.setSame (by assumption) | refine Hb.set (by first | omega | (simp only [size_alloc, size_setB, size_drew]; omega)) ?_ ))) (Ce.h (by first | assumption | exact ⟨rfl⟩)) ?_
  refine WH_p (PS_move_slice rfl) rfl ?_
  refine WH_p (PS_move_int rfl) rfl ?_
  refine WH_p (PS_sub_i64n rfl rfl (by omega) (by omega)) rfl ?_
  refine WH_p (PS_indexS Hvac.runUnderlying280 Hvac.sizeOf26 rfl rfl (by omega) (by omega)) rfl ?_
  refine WH_load (.int _ _) Hvac.isAgg26 rfl (Hb.h (by repeat (first | assumption | exact Hb.newY _ _ | refine Hb.alloc ?_ | refine Hb.drew ?_ | refine Hb.ext (by assumption) ?_ | exact Hb.setSameL (by first | omega | (simp only [size_alloc, size_setB, size_drew]; omega)) | exact Hb.setSame (by assumption) | refine Hb.set (by first | omega | (simp only [size_alloc, size_setB, size_drew]; omega)) ?_ ))) (Ce.h (by first | assumption | exact ⟨rfl⟩)) ?_
  refine WH_p (PS_move_slice rfl) rfl ?_
  refine WH_p (PS_move_int rfl) rfl ?_
  refine WH_p (PS_sub_i64n rfl rfl (by omega) (by omega)) rfl ?_
  refine WH_p (PS_indexS Hvac.runUnderlying280 Hvac.sizeOf26 rfl rfl (by omega) (by omega)) rfl ?_
  refine WH_load (.int _ _) Hvac.isAgg26 rfl (Hb.h (by repeat (first | assumption | exact Hb.newY _ _ | refine Hb.alloc ?_ | refine Hb.drew ?_ | refine Hb.ext (by assumption) ?_ | exact Hb.setSameL (by first | omega | (simp only [size_alloc, size_setB, size_drew]; omega)) | exact Hb.setSame (by assumption) | refine Hb.set (by first | omega | (simp only [size_alloc, size_setB, size_drew]; omega)) ?_ ))) (Ce.h (by first | assumption | exact ⟨rfl⟩)) ?_
  refine WH_p (PS_move_slice rfl) rfl ?_
  refine WH_p (PS_move_int rfl) rfl ?_
  refine WH_p (PS_sub_i64n rfl rfl (by omega) (by omega)) rfl ?_
  refine WH_p (PS_indexS Hvac.runUnderlying280 Hvac.sizeOf26 rfl rfl (by omega) (by omega)) rfl ?_
  refine WH_load (.int _ _) Hvac.isAgg26 rfl (Hb.h (by repeat (first | assumption | exact Hb.newY _ _ | refine Hb.alloc ?_ | refine Hb.drew ?_ | refine Hb.ext (by assumption) ?_ | exact Hb.setSameL (by first | omega | (simp only [size_alloc, size_setB, size_drew]; omega)) | exact Hb.setSame (by assumption) | refine Hb.set (by first | omega | (simp only [size_alloc, size_setB, size_drew]; omega)) ?_ ))) (Ce.h (by first | assumption | exact ⟨rfl⟩)) ?_
  refine WH_call Hvac.call382 (by rfl) (Ret.mono (trial_ex _ _ _ _ _ _ (by omega) (by omega) (by omega) (by omega) (by omega) (by omega)) ?_)
  rintro _ w1 ⟨hE1, q, f, rfl, hq, hf, hq1, hq2⟩
  refine ⟨(fun h => by cases h), ?_⟩
  have hU1 := Hb.ext hE1 hU.drew
  have hV1 := Hb.ext hE1 hV.drew
  have hhi := knuth_hi hpp hU3 hV3 hbu hbv (by omega) hq.1 hq.2 hq1
  have hlo := knuth_lo hpp hU3 hV3 hbu hbv hq.1 hBV hq2
  refine WH_p (PS_move_tuple rfl) rfl ?_
  refine WH_p (PS_extract_int rfl rfl) rfl ?_
  refine WH_p (PS_extract_int rfl rfl) rfl ?_
  refine WH_p (PS_assign_int rfl) rfl ?_
  refine WH_p (PS_assign_int rfl) rfl ?_
  refine WH_nil ?_
  refine thn_normal ?_
  refine W_seq ?_
  refine W_seq ?_
  refine W_region rfl ?_
  refine WO_p (PS_move_slice rfl) ?_
  refine WO_p (PS_move_slice rfl) ?_
  refine WO_p (PS_move_int rfl) ?_
  refine WO_call Hvac.call383 (by rfl) (Ret.mono (takeTimes_ex bu bvY n cu cv ou ov Tu Tv U Y q _ hU1 hV1 hne hUL hYL hun hvn hn hq) ?_)
  rintro _ w3 ⟨z, rfl, L3, hl3, hL3, hB3, hk3, hlv3, hou3⟩
  have hV3_ := Hb.keepO hk3 (fun h => hne h.symm) hV1
  have hb3 := lvr_bd hL3 ou (n + 1)
  rw [Int.pow_succ] at hb3
  have hrn := round_num hVp (Int.le_of_lt hbV.2) hb3 hbU.1 hhi hlo z hlv3
  refine WO_nil ?_
  refine thn_normal ?_
  refine W_if rfl (fun hb3 => ?_) (fun hb3 => ?_)
  · have hb3p := hb3.h; try simp only [al_ete, al_dfn, Bool.not_eq_true', Bool.not_eq_false', al_ne, Bool.not_not, al_nn] at hb3p
    have hzt := hb3p
    refine W_seq ?_
    refine W_region rfl ?_
    refine WO_p (PS_move_slice rfl) ?_
    refine WO_p (PS_move_slice rfl) ?_
    refine WO_call Hvac.call384 (by rfl) (Ret.mono (putBack_ex bu bvY n cu cv ou ov Tu Tv L3 Y _ hB3 hV3_ hne hL3 hYL (by omega) hvn hn) ?_)
    rintro _ w4 ⟨rfl, L4, hl4, hL4, hB4, hk4, ⟨k4, hlv4⟩, hou4⟩
    have hb4 := lvr_bd hL4 ou (n + 1)
    rw [Int.pow_succ] at hb4 hlv4
    refine WO_nil ?_
    refine thn_normal ?_
    refine W_seq ?_
    refine W_region rfl ?_
    refine WO_p (PS_move_int rfl) ?_
    refine WO_p (PS_sub_u64w rfl rfl) ?_
    refine WO_p (PS_move_int rfl) ?_
    refine WO_p (PS_assign_int rfl) ?_
    refine WO_p (PS_assign_int rfl) ?_
    refine WO_p (PS_assign_bool rfl) ?_
    refine WO_nil ?_
    refine thn_normal ?_
    refine W_ret ?_
    refine thn_ret ?_
    refine bodyQ_ret3 Hvac.results377 rfl rfl rfl (.int _ _) (.int _ _) (.bool _) rfl rfl rfl ?_
    first
    | (have hr1 := hrn.2 hzt
       exact ⟨_, _, _, rfl, by omega, hf, L4, hl4.trans hl3, hL4, hB4, ((((Ext.drew (Ext.refl w)).trans hE1).keepO _).trans hk3 (fun _ _ h => h)).trans hk4 (fun _ _ h => h), ⟨by rw [hr1.2.1]; omega, (hr1.2.2 _ _ hb4 hlv4).symm⟩, fun k hk => by rw [hou4 k hk, hou3 k hk]⟩)
    | (have hr1 := hrn.1 hzf
       exact ⟨_, _, _, rfl, hq, hf, L3, hl3, hL3, hB3, (((Ext.drew (Ext.refl w)).trans hE1).keepO _).trans hk3 (fun _ _ h => h), ⟨hr1.1.symm, hr1.2.symm⟩, hou3⟩)
  · have hb3p := hb3.h; try simp only [al_ete, al_dfn, Bool.not_eq_true', Bool.not_eq_false', al_ne, Bool.not_not, al_nn] at hb3p
    have hzf := hb3p
    refine W_skip ?_
    refine thn_normal ?_
    refine W_seq ?_
    refine W_region rfl ?_
    refine WO_p (PS_move_int rfl) ?_
    refine WO_p (PS_move_int rfl) ?_
    refine WO_p (PS_assign_int rfl) ?_
    refine WO_p (PS_assign_int rfl) ?_
    refine WO_p (PS_assign_bool rfl) ?_
    refine WO_nil ?_
    refine thn_normal ?_
    refine W_ret ?_
    refine bodyQ_ret3 Hvac.results377 rfl rfl rfl (.int _ _) (.int _ _) (.bool _) rfl rfl rfl ?_
    first
    | (have hr1 := hrn.2 hzt
       exact ⟨_, _, _, rfl, by omega, hf, L4, hl4.trans hl3, hL4, hB4, ((((Ext.drew (Ext.refl w)).trans hE1).keepO _).trans hk3 (fun _ _ h => h)).trans hk4 (fun _ _ h => h), ⟨by rw [hr1.2.1]; omega, (hr1.2.2 _ _ hb4 hlv4).symm⟩, fun k hk => by rw [hou4 k hk, hou3 k hk]⟩)
    | (have hr1 := hrn.1 hzf
       exact ⟨_, _, _, rfl, hq, hf, L3, hl3, hL3, hB3, (((Ext.drew (Ext.refl w)).trans hE1).keepO _).trans hk3 (fun _ _ h => h), ⟨hr1.1.symm, hr1.2.symm⟩, hou3⟩)

end Go.Proofs.YgvacwGreat
