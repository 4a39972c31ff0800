import Derived.Test.YgvadwGreatUj
namespace Go.Proofs.YgvadwGreat
set_option linter.unusedSimpArgs false
set_option linter.unusedVariables false

set_option maxRecDepth 10000 in
theorem midHolds_spec (bu bvY nu nv cu cv n j : Nat) (Tu Tv : TypeId) (U Y : List Int) (w : World) (hU : Hb w bu (.cells (ic .u64 U) Tu (0, 0))) (hV : Hb w bvY (.cells (ic .u64 Y) Tv (0, 0))) (hul : U.length = nu) (hvl : Y.length = nv) (hn0 : 0 < n) (hnv : n ≤ nv) (hjn : j + n < nu) (hnu : nu ≤ 100) (hUL : UL U) (hYL : UL Y) : Ret Hvad.prog 298 #[.slice (some ⟨bu, 0, none⟩) nu cu, .slice (some ⟨bvY, 0, none⟩) nv cv, .int .u8 n, .int .u8 j] w fun u w' => Ext w w' ∧ ∃ z, u = .bool z ∧ (z = true → 9223372036854775808 ≤ Y.getD (n - 1) 0) := by
  have hc0 : Ce (ic .u64 Y) (0 + ((n:Int) - 1).toNat * 1) (.int .u64 (Y.getD (n - 1) 0)) := by rw [show ((n:Int) - 1).toNat = n - 1 by omega]; exact ce_ic (by omega)
  have hy0 := hYL.get (n - 1)
  refine Ret_of_W Hvad.func298 rfl rfl ?_
  refine W_seq ?_
  refine W_region rfl ?_
  refine WO_p (PS_assign_bool rfl) ?_
  refine WO_nil ?_
  refine thn_normal ?_
  refine W_seq ?_
  refine W_seq ?_
  refine W_region rfl ?_
  refine WO_p (PS_move_slice rfl) ?_
  refine WO_p (PS_move_int rfl) ?_
  refine WO_p (PS_sub_u8n rfl rfl (by omega) (by omega)) ?_
  refine WO_p (PS_indexS Hvad.runUnderlying194 Hvad.sizeOf26 rfl rfl (by omega) (by omega)) ?_
  refine WO_load (.int _ _) Hvad.isAgg26 rfl (Hb.h (by repeat (first | assumption | exact Hb.newY _ _ | refine Hb.alloc ?_ | refine Hb.drew ?_ | refine Hb.ext (by assumption) ?_ | exact Hb.setSameL (by first | omega | (simp only [size_alloc, size_setB, size_drew]; omega)) | exact Hb.setSame (by assumption) | refine Hb.set (by first | omega | (simp only [size_alloc, size_setB, size_drew]; omega)) ?_ ))) (Ce.h (by first | assumption | exact ⟨rfl⟩)) ?_
  refine WO_p (PS_shr_u64 63 rfl rfl (by decide) rfl) ?_
  refine WO_p (PS_eql rfl rfl) ?_
  refine WO_nil ?_
  refine thn_normal ?_
  refine W_if rfl (fun hb2 => ?_) (fun hb2 => ?_)
  · have hb2p := hb2.h; try simp only [al_ete, al_dfn, Bool.not_eq_true', Bool.not_eq_false', al_ne, Bool.not_not, al_nn] at hb2p
    refine W_seq ?_
    refine W_region rfl ?_
    refine WO_p (PS_assign_bool rfl) ?_
    refine WO_nil ?_
    refine thn_normal ?_
    refine W_ret ?_
    refine thn_ret ?_
    refine bodyQ_ret1 Hvad.results298 rfl (.bool _) rfl ?_
    first
    | exact ⟨Ext.refl _, _, rfl, fun h => by cases h⟩
    | exact ⟨by assumption, _, rfl, fun h => by cases h⟩
    | exact ⟨Ext.drew (Ext.drew hE3), _, rfl, fun _ => htop⟩
  · have hb2p := hb2.h; try simp only [al_ete, al_dfn, Bool.not_eq_true', Bool.not_eq_false', al_ne, Bool.not_not, al_nn] at hb2p
    have htop : 9223372036854775808 ≤ Y.getD (n - 1) 0 := by omega
    refine W_skip ?_
    refine thn_normal ?_
    refine W_seq ?_
    refine W_seq ?_
    refine W_region rfl ?_
    refine WO_p (PS_move_int rfl) ?_
    refine WO_p (PS_conv_i64n Hvad.runUnderlying5 Hvad.runUnderlying3 rfl (by omega) (by omega)) ?_
    refine WO_p (PS_move_int rfl) ?_
    refine WO_p (PS_conv_i64n Hvad.runUnderlying5 Hvad.runUnderlying3 rfl (by omega) (by omega)) ?_
    refine WO_p (PS_add_i64n rfl rfl (by omega) (by omega)) ?_
    refine WO_p (PS_add_i64n rfl rfl (by omega) (by omega)) ?_
    refine WO_p (PS_assign_int rfl) ?_
    refine WO_nil ?_
    refine thn_normal ?_
    refine W_block ?_
    refine W_loopN (fun m ρ w' => ∃ i : Nat, j + n + 1 ≤ i ∧ i ≤ nu ∧ nu - i ≤ m ∧ Fr [(0, .slice (some ⟨bu, 0, none⟩) nu cu), (1, .slice (some ⟨bvY, 0, none⟩) nv cv), (2, .int .u8 n), (3, .int .u8 j), (9, .int .i64 i)] ρ ∧ Ext w w' ∧ Hb w' bu (.cells (ic .u64 U) Tu (0, 0)) ∧ Hb w' bvY (.cells (ic .u64 Y) Tv (0, 0))) nu ?_ ?_
    · exact ⟨j + n + 1, by omega, by omega, by omega, ⟨rfl, rfl, rfl, rfl, congrArg (Value.int .i64) (by omega), trivial⟩, Ext.refl _, hU, hV⟩
    intro m ρ w2 hI
    obtain ⟨i, hi0, hi1, him, hF, hE2, hU2, hV2⟩ := hI
    refine W_env _ hF ?_
    refine W_seq ?_
    refine W_seq ?_
    refine W_region rfl ?_
    refine WO_p (PS_move_int rfl) ?_
    refine WO_p (PS_move_slice rfl) ?_
    refine WO_p (PS_lenS Hvad.runUnderlying194 rfl) ?_
    refine WO_p (PS_lss rfl rfl) ?_
    refine WO_nil ?_
    refine thn_normal ?_
    refine W_if rfl (fun hb4 => ?_) (fun hb4 => ?_)
    · have hb4p := hb4.h; try simp only [al_ete, al_dfn, Bool.not_eq_true', Bool.not_eq_false', al_ne, Bool.not_not, al_nn] at hb4p
      have hce : Ce (ic .u64 U) (0 + ((i:Int)).toNat * 1) (.int .u64 (U.getD i 0)) := by rw [show ((i:Int)).toNat = i from Int.toNat_natCast i]; exact ce_ic (by omega)
      refine W_skip ?_
      refine thn_normal ?_
      refine W_seq ?_
      refine W_block ?_
      refine W_seq ?_
      refine W_region rfl ?_
      refine WO_p (PS_move_slice rfl) ?_
      refine WO_p (PS_move_int rfl) ?_
      refine WO_p (PS_indexS Hvad.runUnderlying194 Hvad.sizeOf26 rfl rfl (by omega) (by omega)) ?_
      refine WO_load (.int _ _) Hvad.isAgg26 rfl (Hb.h (by repeat (first | assumption | exact Hb.newY _ _ | refine Hb.alloc ?_ | refine Hb.drew ?_ | refine Hb.ext (by assumption) ?_ | exact Hb.setSameL (by first | omega | (simp only [size_alloc, size_setB, size_drew]; omega)) | exact Hb.setSame (by assumption) | refine Hb.set (by first | omega | (simp only [size_alloc, size_setB, size_drew]; omega)) ?_ ))) (Ce.h (by first | assumption | exact ⟨rfl⟩)) ?_
      refine WO_p (PS_neq rfl rfl) ?_
      refine WO_nil ?_
      refine thn_normal ?_
      refine W_if rfl (fun hb6 => ?_) (fun hb6 => ?_)
      · have hb6p := hb6.h; try simp only [al_ete, al_dfn, Bool.not_eq_true', Bool.not_eq_false', al_ne, Bool.not_not, al_nn] at hb6p
        refine W_seq ?_
        refine W_region rfl ?_
        refine WO_p (PS_assign_bool rfl) ?_
        refine WO_nil ?_
        refine thn_normal ?_
        refine W_ret ?_
        refine inBlk_ret ?_
        refine thn_ret ?_
        refine thn_ret ?_
        refine inBlk_ret ?_
        refine thn_ret ?_
        refine bodyQ_ret1 Hvad.results298 rfl (.bool _) rfl ?_
        first
        | exact ⟨Ext.refl _, _, rfl, fun h => by cases h⟩
        | exact ⟨by assumption, _, rfl, fun h => by cases h⟩
        | exact ⟨Ext.drew (Ext.drew hE3), _, rfl, fun _ => htop⟩
      · have hb6p := hb6.h; try simp only [al_ete, al_dfn, Bool.not_eq_true', Bool.not_eq_false', al_ne, Bool.not_not, al_nn] at hb6p
        refine W_skip ?_
        refine inBlk_normal ?_
        refine thn_normal ?_
        refine W_region rfl ?_
        refine WO_p (PS_move_int rfl) ?_
        refine WO_p (PS_add_i64n rfl rfl (by omega) (by omega)) ?_
        refine WO_p (PS_assign_int rfl) ?_
        refine WO_nil ?_
        refine thn_normal ?_
        exact ⟨m - 1, by omega, i + 1, by omega, by omega, by omega, ⟨rfl, rfl, rfl, rfl, congrArg (Value.int .i64) (by omega), trivial⟩, hE2, hU2, hV2⟩
    · have hb4p := hb4.h; try simp only [al_ete, al_dfn, Bool.not_eq_true', Bool.not_eq_false', al_ne, Bool.not_not, al_nn] at hb4p
      refine W_exit ?_
      refine thn_exit ?_
      refine thn_exit ?_
      refine inBlk_exit ?_
      refine thn_normal ?_
      refine W_seq ?_
      refine W_seq ?_
      refine W_region rfl ?_
      refine WO_p (PS_move_int rfl) ?_
      refine WO_p (PS_assign_int rfl) ?_
      refine WO_nil ?_
      refine thn_normal ?_
      refine W_block ?_
      refine W_loopN (fun m ρ w' => m ≤ n ∧ Fr [(0, .slice (some ⟨bu, 0, none⟩) nu cu), (1, .slice (some ⟨bvY, 0, none⟩) nv cv), (2, .int .u8 n), (3, .int .u8 j), (10, .int .u8 m)] ρ ∧ Ext w w' ∧ Hb w' bu (.cells (ic .u64 U) Tu (0, 0)) ∧ Hb w' bvY (.cells (ic .u64 Y) Tv (0, 0))) n ?_ ?_
      · exact ⟨Nat.le_refl _, ⟨rfl, rfl, rfl, rfl, rfl, trivial⟩, hE2, hU2, hV2⟩
      clear hE2 hU2 hV2
      intro i2 ρ2 w3 hI
      obtain ⟨hi2, hF2, hE3, hU3, hV3⟩ := hI
      refine W_env _ hF2 ?_
      refine W_seq ?_
      refine W_seq ?_
      refine W_region rfl ?_
      refine WO_p (PS_move_int rfl) ?_
      refine WO_p (PS_gtr rfl rfl) ?_
      refine WO_nil ?_
      refine thn_normal ?_
      refine W_if rfl (fun hb8 => ?_) (fun hb8 => ?_)
      · have hb8p := hb8.h; try simp only [al_ete, al_dfn, Bool.not_eq_true', Bool.not_eq_false', al_ne, Bool.not_not, al_nn] at hb8p
        have hce1 : Ce (ic .u64 U) (0 + ((j:Int) + (i2:Int)).toNat * 1) (.int .u64 (U.getD (j + i2) 0)) := by rw [show ((j:Int) + (i2:Int)).toNat = j + i2 by omega]; exact ce_ic (by omega)
        have hce2 : Ce (ic .u64 Y) (0 + ((i2:Int) - 1).toNat * 1) (.int .u64 (Y.getD (i2 - 1) 0)) := by rw [show ((i2:Int) - 1).toNat = i2 - 1 by omega]; exact ce_ic (by omega)
        refine W_skip ?_
        refine thn_normal ?_
        refine W_seq ?_
        refine W_block ?_
        refine W_seq ?_
        refine W_drawE [false, false, false, false, false, false, false, false, false, false, false, false] hmix (by kernel_rfl) rfl ?_
        refine WH_p (PS_move_slice rfl) rfl ?_
        refine WH_p (PS_move_int rfl) rfl ?_
        refine WH_p (PS_move_int rfl) rfl ?_
        refine WH_p (PS_add_u8n rfl rfl (by omega) (by omega)) rfl ?_
        refine WH_p (PS_indexS Hvad.runUnderlying194 Hvad.sizeOf26 rfl rfl (by omega) (by omega)) rfl ?_
        refine WH_load (.int _ _) Hvad.isAgg26 rfl (Hb.h (by repeat (first | assumption | exact Hb.newY _ _ | refine Hb.alloc ?_ | refine Hb.drew ?_ | refine Hb.ext (by assumption) ?_ | exact Hb.setSameL (by first | omega | (simp only [size_alloc, size_setB, size_drew]; omega)) | exact Hb.setSame (by assumption) | refine Hb.set (by first | omega | (simp only [size_alloc, size_setB, size_drew]; omega)) ?_ ))) (Ce.h (by first | assumption | exact ⟨rfl⟩)) ?_
        refine WH_p (PS_move_slice rfl) rfl ?_
        refine WH_p (PS_move_int rfl) rfl ?_
        refine WH_p (PS_sub_u8n rfl rfl (by omega) (by omega)) rfl ?_
        refine WH_p (PS_indexS Hvad.runUnderlying194 Hvad.sizeOf26 rfl rfl (by omega) (by omega)) rfl ?_
        refine WH_load (.int _ _) Hvad.isAgg26 rfl (Hb.h (by repeat (first | assumption | exact Hb.newY _ _ | refine Hb.alloc ?_ | refine Hb.drew ?_ | refine Hb.ext (by assumption) ?_ | exact Hb.setSameL (by first | omega | (simp only [size_alloc, size_setB, size_drew]; omega)) | exact Hb.setSame (by assumption) | refine Hb.set (by first | omega | (simp only [size_alloc, size_setB, size_drew]; omega)) ?_ ))) (Ce.h (by first | assumption | exact ⟨rfl⟩)) ?_
        refine WH_p (PS_neq rfl rfl) rfl ?_
        refine WH_nil ?_
        refine thn_normal ?_
        refine W_if rfl (fun hb10 => ?_) (fun hb10 => ?_)
        · have hb10p := hb10.h; try simp only [al_ete, al_dfn, Bool.not_eq_true', Bool.not_eq_false', al_ne, Bool.not_not, al_nn] at hb10p
          refine W_seq ?_
          refine W_drawE [false, false, false, false, false, false, false, false, false, false, false, false, false] hmix (by kernel_rfl) rfl ?_
          refine WH_p (PS_move_slice rfl) rfl ?_
          refine WH_p (PS_move_int rfl) rfl ?_
          refine WH_p (PS_move_int rfl) rfl ?_
          refine WH_p (PS_add_u8n rfl rfl (by omega) (by omega)) rfl ?_
          refine WH_p (PS_indexS Hvad.runUnderlying194 Hvad.sizeOf26 rfl rfl (by omega) (by omega)) rfl ?_
          refine WH_load (.int _ _) Hvad.isAgg26 rfl (Hb.h (by repeat (first | assumption | exact Hb.newY _ _ | refine Hb.alloc ?_ | refine Hb.drew ?_ | refine Hb.ext (by assumption) ?_ | exact Hb.setSameL (by first | omega | (simp only [size_alloc, size_setB, size_drew]; omega)) | exact Hb.setSame (by assumption) | refine Hb.set (by first | omega | (simp only [size_alloc, size_setB, size_drew]; omega)) ?_ ))) (Ce.h (by first | assumption | exact ⟨rfl⟩)) ?_
          refine WH_p (PS_move_slice rfl) rfl ?_
          refine WH_p (PS_move_int rfl) rfl ?_
          refine WH_p (PS_sub_u8n rfl rfl (by omega) (by omega)) rfl ?_
          refine WH_p (PS_indexS Hvad.runUnderlying194 Hvad.sizeOf26 rfl rfl (by omega) (by omega)) rfl ?_
          refine WH_load (.int _ _) Hvad.isAgg26 rfl (Hb.h (by repeat (first | assumption | exact Hb.newY _ _ | refine Hb.alloc ?_ | refine Hb.drew ?_ | refine Hb.ext (by assumption) ?_ | exact Hb.setSameL (by first | omega | (simp only [size_alloc, size_setB, size_drew]; omega)) | exact Hb.setSame (by assumption) | refine Hb.set (by first | omega | (simp only [size_alloc, size_setB, size_drew]; omega)) ?_ ))) (Ce.h (by first | assumption | exact ⟨rfl⟩)) ?_
          refine WH_p (PS_lss rfl rfl) rfl ?_
          refine WH_p (PS_assign_bool rfl) rfl ?_
          refine WH_nil ?_
          refine thn_normal ?_
          refine W_ret ?_
          refine inBlk_ret ?_
          refine thn_ret ?_
          refine thn_ret ?_
          refine inBlk_ret ?_
          refine thn_ret ?_
          refine bodyQ_ret1 Hvad.results298 rfl (.bool _) rfl ?_
          first
          | exact ⟨Ext.refl _, _, rfl, fun h => by cases h⟩
          | exact ⟨by assumption, _, rfl, fun h => by cases h⟩
          | exact ⟨Ext.drew (Ext.drew hE3), _, rfl, fun _ => htop⟩
        · have hb10p := hb10.h; try simp only [al_ete, al_dfn, Bool.not_eq_true', Bool.not_eq_false', al_ne, Bool.not_not, al_nn] at hb10p
          refine W_skip ?_
          refine inBlk_normal ?_
          refine thn_normal ?_
          refine W_region rfl ?_
          refine WO_p (PS_move_int rfl) ?_
          refine WO_p (PS_sub_u8n rfl rfl (by omega) (by omega)) ?_
          refine WO_p (PS_assign_int rfl) ?_
          refine WO_nil ?_
          refine thn_normal ?_
          exact ⟨i2 - 1, by omega, by omega, ⟨rfl, rfl, rfl, rfl, congrArg (Value.int .u8) (by omega), trivial⟩, hE3.drew, hU3.drew, hV3.drew⟩
      · have hb8p := hb8.h; try simp only [al_ete, al_dfn, Bool.not_eq_true', Bool.not_eq_false', al_ne, Bool.not_not, al_nn] at hb8p
        refine W_exit ?_
        refine thn_exit ?_
        refine thn_exit ?_
        refine inBlk_exit ?_
        refine thn_normal ?_
        refine W_seq ?_
        refine W_region rfl ?_
        refine WO_p (PS_assign_bool rfl) ?_
        refine WO_nil ?_
        refine thn_normal ?_
        refine W_ret ?_
        refine bodyQ_ret1 Hvad.results298 rfl (.bool _) rfl ?_
        first
        | exact ⟨Ext.refl _, _, rfl, fun h => by cases h⟩
        | exact ⟨by assumption, _, rfl, fun h => by cases h⟩
        | exact ⟨Ext.drew (Ext.drew hE3), _, rfl, fun _ => htop⟩

end Go.Proofs.YgvadwGreat
