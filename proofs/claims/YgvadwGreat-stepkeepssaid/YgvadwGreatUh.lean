import Derived.Test.YgvadwGreatUf
namespace Go.Proofs.YgvadwGreat
set_option linter.unusedSimpArgs false
set_option linter.unusedVariables false
/-- normalised: shifted up by the leading zeros -/
theorem Ln.norm {y : Int} {n : Nat} (h : Ln y n) (h0 : 0 < y) (hn : n ≤ 64) : y * 2 ^ (64 - n) % 18446744073709551616 = y * 2 ^ (64 - n) ∧ 9223372036854775808 ≤ y * 2 ^ (64 - n) ∧ y * 2 ^ (64 - n) ≤ 18446744073709551615 := by
  obtain ⟨h1, h2⟩ := h
  have h2 := h2 (by omega)
  have hp : (0:Int) < 2 ^ (64 - n) := Int.pow_pos (by decide)
  have e : (2:Int) ^ n * 2 ^ (64 - n) = 18446744073709551616 := by rw [← Int.pow_add, show n + (64 - n) = 64 by omega]; rfl
  have m1 : (2:Int) ^ n * 2 ^ (64 - n) ≤ (2 * y) * 2 ^ (64 - n) := Int.mul_le_mul_of_nonneg_right h2 (Int.le_of_lt hp)
  have m2 : (y + 1) * 2 ^ (64 - n) ≤ (2:Int) ^ n * 2 ^ (64 - n) := Int.mul_le_mul_of_nonneg_right (by omega) (Int.le_of_lt hp)
  rw [e] at m1 m2
  rw [Int.add_mul, Int.one_mul] at m2
  rw [Int.mul_assoc] at m1
  generalize y * 2 ^ (64 - n) = z at *
  omega
theorem rem_wrap {u d : Int} (hu : 0 ≤ u ∧ u ≤ 18446744073709551615) (hd : 0 < d) : (u - u / d * d % 18446744073709551616) % 18446744073709551616 = u % d := by
  have h1 := Int.mul_ediv_add_emod u d
  have h2 := Int.emod_nonneg u (Int.ne_of_gt hd)
  have h3 := Int.emod_lt_of_pos u hd
  have h4 : 0 ≤ u / d := Int.ediv_nonneg hu.1 (Int.le_of_lt hd)
  have h5 : 0 ≤ u / d * d := Int.mul_nonneg h4 (Int.le_of_lt hd)
  rw [Int.mul_comm] at h1
  generalize u / d * d = z at *
  omega
theorem quo_bd {u d : Int} (hu : 0 ≤ u ∧ u ≤ 18446744073709551615) (hd : 0 < d) : 0 ≤ u / d ∧ u / d ≤ 18446744073709551615 :=
  ⟨Int.ediv_nonneg hu.1 (Int.le_of_lt hd), Int.le_trans (Int.ediv_le_self _ hu.1) hu.2⟩

set_option maxRecDepth 10000 in
theorem lz64b_spec (x : Int) (w : World) (hx : 0 ≤ x ∧ x ≤ 18446744073709551615) : Ret Hvad.prog 289 #[.int .u64 x] w fun u w' => w' = w ∧ ∃ n : Nat, u = .int .i64 (64 - n) ∧ n ≤ 64 ∧ Ln x n := by
  refine Ret_of_W Hvad.func289 rfl rfl ?_
  refine W_seq ?_
  refine W_region rfl ?_
  refine WO_p (PS_assign_int rfl) ?_
  refine WO_nil ?_
  refine thn_normal ?_
  refine W_seq ?_
  refine W_region rfl ?_
  refine WO_p (PS_move_int rfl) ?_
  refine WO_call Hvad.call236 (by rfl) (Ret.mono (len64b_spec _ _ (by omega)) ?_)
  rintro _ _ ⟨rfl, n236_0, rfl, hn1236_0, hL236_0⟩
  refine WO_p (PS_sub_i64n rfl rfl (by omega) (by omega)) ?_
  refine WO_p (PS_assign_int rfl) ?_
  refine WO_nil ?_
  refine thn_normal ?_
  refine W_ret ?_
  refine bodyQ_ret1 Hvad.results289 rfl (.int _ _) rfl ?_
  exact ⟨rfl, _, rfl, by assumption, by assumption⟩

set_option maxRecDepth 10000 in
theorem lz64_spec (x : Int) (w : World) (hx : 0 ≤ x ∧ x ≤ 18446744073709551615) : Ret Hvad.prog 275 #[.int .u64 x] w fun u w' => w' = w ∧ ∃ n : Nat, u = .int .i64 (64 - n) ∧ n ≤ 64 ∧ Ln x n := by
  refine Ret_of_W Hvad.func275 rfl rfl ?_
  refine W_seq ?_
  refine W_region rfl ?_
  refine WO_p (PS_assign_int rfl) ?_
  refine WO_nil ?_
  refine thn_normal ?_
  refine W_seq ?_
  refine W_region rfl ?_
  refine WO_p (PS_move_int rfl) ?_
  refine WO_call Hvad.call289 (by rfl) (Ret.mono (lz64b_spec _ _ (by omega)) ?_)
  rintro _ _ ⟨rfl, n289_0, rfl, hn1289_0, hL289_0⟩
  refine WO_p (PS_assign_int rfl) ?_
  refine WO_nil ?_
  refine thn_normal ?_
  refine W_ret ?_
  refine bodyQ_ret1 Hvad.results275 rfl (.int _ _) rfl ?_
  exact ⟨rfl, _, rfl, by assumption, by assumption⟩

set_option maxRecDepth 10000 in
set_option maxHeartbeats 2000000 in
theorem div64b_spec (hi lo y : Int) (w : World) (hh : 0 ≤ hi ∧ hi ≤ 18446744073709551615) (hl : 0 ≤ lo ∧ lo ≤ 18446744073709551615) (hy : 0 ≤ y ∧ y ≤ 18446744073709551615) (hy0 : y ≠ 0) (hlt : hi < y) : Ret Hvad.prog 281 #[.int .u64 hi, .int .u64 lo, .int .u64 y] w fun u w' => Ext w w' ∧ ∃ q r : Int, u = .tuple #[.int .u64 q, .int .u64 r] ∧ (0 ≤ q ∧ q ≤ 18446744073709551615) ∧ (0 ≤ r ∧ r ≤ 18446744073709551615) := by
  refine Ret_of_W Hvad.func281 rfl rfl ?_
  refine W_seq ?_
  refine W_region rfl ?_
  refine WO_p (PS_assign_int rfl) ?_
  refine WO_p (PS_assign_int rfl) ?_
  refine WO_nil ?_
  refine thn_normal ?_
  refine W_seq ?_
  refine W_seq ?_
  refine W_region rfl ?_
  refine WO_p (PS_move_int rfl) ?_
  refine WO_p (PS_eql rfl rfl) ?_
  refine WO_nil ?_
  refine thn_normal ?_
  refine W_if rfl (fun hb2 => ?_) (fun hb2 => ?_)
  · have hb2p := hb2.h; try simp only [al_ete, al_dfn, Bool.not_eq_true', Bool.not_eq_false', al_ne, Bool.not_not, al_nn] at hb2p
    exfalso; omega --END
  · have hb2p := hb2.h; try simp only [al_ete, al_dfn, Bool.not_eq_true', Bool.not_eq_false', al_ne, Bool.not_not, al_nn] at hb2p
    refine W_skip ?_
    refine thn_normal ?_
    refine W_seq ?_
    refine W_seq ?_
    refine W_region rfl ?_
    refine WO_p (PS_move_int rfl) ?_
    refine WO_p (PS_move_int rfl) ?_
    refine WO_p (PS_leq rfl rfl) ?_
    refine WO_nil ?_
    refine thn_normal ?_
    refine W_if rfl (fun hb4 => ?_) (fun hb4 => ?_)
    · have hb4p := hb4.h; try simp only [al_ete, al_dfn, Bool.not_eq_true', Bool.not_eq_false', al_ne, Bool.not_not, al_nn] at hb4p
      exfalso; omega --END
    · have hb4p := hb4.h; try simp only [al_ete, al_dfn, Bool.not_eq_true', Bool.not_eq_false', al_ne, Bool.not_not, al_nn] at hb4p
      refine W_skip ?_
      refine thn_normal ?_
      refine W_seq ?_
      refine W_seq ?_
      refine W_region rfl ?_
      refine WO_p (PS_move_int rfl) ?_
      refine WO_p (PS_eql rfl rfl) ?_
      refine WO_nil ?_
      refine thn_normal ?_
      refine W_if rfl (fun hb6 => ?_) (fun hb6 => ?_)
      · have hb6p := hb6.h; try simp only [al_ete, al_dfn, Bool.not_eq_true', Bool.not_eq_false', al_ne, Bool.not_not, al_nn] at hb6p
        refine W_seq ?_
        refine W_drawE [false, false, false, false, false, false, false, false] hmix (by kernel_rfl) rfl ?_
        refine WH_p (PS_move_int rfl) rfl ?_
        refine WH_p (PS_move_int rfl) rfl ?_
        refine WH_p (PS_quo_u64 rfl rfl (by omega) (by omega) (by omega)) rfl ?_
        refine WH_p (PS_move_int rfl) rfl ?_
        refine WH_p (PS_move_int rfl) rfl ?_
        refine WH_p (PS_rem_u64 rfl rfl (by omega) (by omega)) rfl ?_
        refine WH_p (PS_assign_int rfl) rfl ?_
        refine WH_p (PS_assign_int rfl) rfl ?_
        refine WH_nil ?_
        refine thn_normal ?_
        refine W_ret ?_
        refine thn_ret ?_
        refine bodyQ_ret2 Hvad.results281 rfl rfl (.int _ _) (.int _ _) rfl rfl ?_
        first
        | exact ⟨(by repeat (first | assumption | exact Ext.refl _ | refine Ext.alloc ?_ _ | refine Ext.drew ?_ | refine Ext.setB ?_ (by first | omega | (simp only [size_alloc, size_setB, size_drew]; omega)) _ | refine Ext.trans ?_ (by assumption))), _, _, rfl, quo_bd hl (by omega), ⟨Int.emod_nonneg _ (by omega), by have := Int.emod_lt_of_pos lo (show 0 < y by omega); omega⟩⟩
        | exact ⟨hE3, _, _, rfl, by omega, shr_bd _ (by omega)⟩
      · have hb6p := hb6.h; try simp only [al_ete, al_dfn, Bool.not_eq_true', Bool.not_eq_false', al_ne, Bool.not_not, al_nn] at hb6p
        refine W_skip ?_
        refine thn_normal ?_
        refine W_seq ?_
        refine W_region rfl ?_
        refine WO_p (PS_move_int rfl) ?_
        refine WO_call Hvad.call289 (by rfl) (Ret.mono (lz64b_spec y _ hy) ?_)
        rintro _ w9 ⟨hw9, n, rfl, hn, hL⟩
        obtain rfl := hw9.symm
        have hN := hL.norm (by omega) hn
        refine WO_p (PS_conv_u64n Hvad.runUnderlying3 Hvad.runUnderlying158 rfl (by omega) (by omega)) ?_
        refine WO_p (PS_assign_int rfl) ?_
        refine WO_nil ?_
        refine thn_normal ?_
        refine W_seq ?_
        refine W_region rfl ?_
        refine WO_p (PS_move_int rfl) ?_
        refine WO_p (PS_move_int rfl) ?_
        refine WO_p (PS_shl_u64 (64 - n) rfl rfl (by omega) (by omega)) ?_
        rw [hN.1]
        generalize y * 2 ^ (64 - n) = Y at hN ⊢
        refine WO_p (PS_assign_int rfl) ?_
        refine WO_nil ?_
        refine thn_normal ?_
        refine W_seq ?_
        refine W_region rfl ?_
        refine WO_p (PS_move_int rfl) ?_
        refine WO_p (PS_shr_u64 32 rfl rfl (by decide) rfl) ?_
        refine WO_p (PS_assign_int rfl) ?_
        refine WO_nil ?_
        refine thn_normal ?_
        refine W_seq ?_
        refine W_region rfl ?_
        refine WO_p (PS_move_int rfl) ?_
        refine WO_p (PS_and_u64 rfl rfl) ?_
        rw [bAnd_mask32 (by omega) (by omega)]
        refine WO_p (PS_assign_int rfl) ?_
        refine WO_nil ?_
        refine thn_normal ?_
        refine W_seq ?_
        refine W_region rfl ?_
        refine WO_p (PS_move_int rfl) ?_
        refine WO_p (PS_move_int rfl) ?_
        refine WO_p (PS_shl_u64 (64 - n) rfl rfl (by omega) (by omega)) ?_
        refine WO_p (PS_move_int rfl) ?_
        refine WO_p (PS_move_int rfl) ?_
        refine WO_p (PS_sub_u64n rfl rfl (by omega) (by omega)) ?_
        refine WO_p (PS_shr_u64 n rfl rfl (by omega) (by omega)) ?_
        refine WO_p (PS_or_u64 rfl rfl) ?_
        obtain ⟨U, hUe⟩ : ∃ U, U = bOr (hi * 2 ^ (64 - n) % 18446744073709551616) (lo / 2 ^ n) := ⟨_, rfl⟩
        have hU : 0 ≤ U ∧ U ≤ 18446744073709551615 := by rw [hUe]; exact bOr_bd _ _
        rw [← hUe]
        clear hUe
        refine WO_p (PS_assign_int rfl) ?_
        refine WO_nil ?_
        refine thn_normal ?_
        refine W_seq ?_
        refine W_region rfl ?_
        refine WO_p (PS_move_int rfl) ?_
        refine WO_p (PS_move_int rfl) ?_
        refine WO_p (PS_shl_u64 (64 - n) rfl rfl (by omega) (by omega)) ?_
        obtain ⟨V, hVe⟩ : ∃ V, V = lo * 2 ^ (64 - n) % 18446744073709551616 := ⟨_, rfl⟩
        have hV : 0 ≤ V ∧ V ≤ 18446744073709551615 := by rw [hVe]; omega
        rw [← hVe]
        clear hVe
        refine WO_p (PS_assign_int rfl) ?_
        refine WO_nil ?_
        refine thn_normal ?_
        refine W_seq ?_
        refine W_region rfl ?_
        refine WO_p (PS_move_int rfl) ?_
        refine WO_p (PS_shr_u64 32 rfl rfl (by decide) rfl) ?_
        refine WO_p (PS_assign_int rfl) ?_
        refine WO_nil ?_
        refine thn_normal ?_
        refine W_seq ?_
        refine W_region rfl ?_
        refine WO_p (PS_move_int rfl) ?_
        refine WO_p (PS_and_u64 rfl rfl) ?_
        rw [bAnd_mask32 (by omega) (by omega)]
        refine WO_p (PS_assign_int rfl) ?_
        refine WO_nil ?_
        refine thn_normal ?_
        refine W_seq ?_
        refine W_region rfl ?_
        refine WO_p (PS_move_int rfl) ?_
        refine WO_p (PS_move_int rfl) ?_
        refine WO_p (PS_quo_u64 rfl rfl (by omega) (by omega) (by omega)) ?_
        refine WO_p (PS_assign_int rfl) ?_
        refine WO_nil ?_
        refine thn_normal ?_
        refine W_seq ?_
        refine W_region rfl ?_
        refine WO_p (PS_move_int rfl) ?_
        refine WO_p (PS_move_int rfl) ?_
        refine WO_p (PS_move_int rfl) ?_
        refine WO_p (PS_mul_u64w rfl rfl) ?_
        refine WO_p (PS_sub_u64w rfl rfl) ?_
        rw [rem_wrap hU (by omega)]
        refine WO_p (PS_assign_int rfl) ?_
        refine WO_nil ?_
        refine thn_normal ?_
        refine W_seq ?_
        refine W_block ?_
        refine W_loopN (fun m ρ w' => ∃ q r : Int, (0 ≤ q ∧ q ≤ 18446744073709551615) ∧ (0 ≤ r ∧ r < 4294967296) ∧ 4294967296 - r ≤ m ∧ Fr [(2, .int .u64 Y), (8, .int .u64 (64 - n)), (9, .int .u64 (Y / 2 ^ 32)), (10, .int .u64 (Y % 4294967296)), (14, .int .u64 (V % 4294967296)), (16, .int .u64 r), (11, .int .u64 U), (13, .int .u64 (V / 2 ^ 32)), (15, .int .u64 q)] ρ ∧ Ext w w') 4294967296 ?_ ?_
        · have hq := quo_bd (d := Y / 2 ^ 32) hU (by omega)
          have hr0 := Int.emod_nonneg U (b := Y / 2 ^ 32) (by omega)
          have hr1 := Int.emod_lt_of_pos U (b := Y / 2 ^ 32) (by omega)
          exact ⟨_, _, hq, ⟨hr0, by omega⟩, by omega, ⟨rfl, rfl, rfl, rfl, rfl, rfl, rfl, rfl, rfl, trivial⟩, Ext.refl _⟩
        intro m ρ w2 hI
        obtain ⟨q, r, hq, hr, hm, hF, hE2⟩ := hI
        refine W_env _ hF ?_
        refine W_seq ?_
        refine W_seq ?_
        refine W_region rfl ?_
        refine WO_p (PS_move_int rfl) ?_
        refine WO_p (PS_geq rfl rfl) ?_
        refine WO_p (PS_move_bool rfl) ?_
        refine WO_if (t := 69) rfl (fun hb9 => ?_) (fun hb9 => ?_)
        · have hb9p := hb9.h; try simp only [al_ete, al_dfn, Bool.not_eq_true', Bool.not_eq_false', al_ne, Bool.not_not, al_nn] at hb9p
          refine WO_guardF rfl rfl hb9.h ?_
          refine WO_guardF rfl rfl hb9.h ?_
          refine WO_guardF rfl rfl hb9.h ?_
          refine WO_guardF rfl rfl hb9.h ?_
          refine WO_guardF rfl rfl hb9.h ?_
          refine WO_guardF rfl rfl hb9.h ?_
          refine WO_guardF rfl rfl hb9.h ?_
          refine WO_guardF rfl rfl hb9.h ?_
          refine WO_p (PS_pickT rfl hb9.h rfl) ?_
          refine WO_nil ?_
          refine thn_normal ?_
          refine W_condT rfl rfl ?_
          refine W_skip ?_
          refine thn_normal ?_
          refine W_block ?_
          refine W_seq ?_
          refine W_region rfl ?_
          refine WO_p (PS_move_int rfl) ?_
          refine WO_p (PS_sub_u64w rfl rfl) ?_
          refine WO_p (PS_assign_int rfl) ?_
          refine WO_nil ?_
          refine thn_normal ?_
          refine W_seq ?_
          refine W_region rfl ?_
          refine WO_p (PS_move_int rfl) ?_
          refine WO_p (PS_move_int rfl) ?_
          refine WO_p (PS_add_u64w rfl rfl) ?_
          refine WO_p (PS_assign_int rfl) ?_
          refine WO_nil ?_
          refine thn_normal ?_
          refine W_seq ?_
          refine W_region rfl ?_
          refine WO_p (PS_move_int rfl) ?_
          refine WO_p (PS_geq rfl rfl) ?_
          refine WO_nil ?_
          refine thn_normal ?_
          refine W_if rfl (fun hb11 => ?_) (fun hb11 => ?_)
          · have hb11p := hb11.h; try simp only [al_ete, al_dfn, Bool.not_eq_true', Bool.not_eq_false', al_ne, Bool.not_not, al_nn] at hb11p
            refine W_exit ?_
            refine inBlk_exit_ne (by decide) ?_
            refine thn_exit ?_
            refine inBlk_exit ?_
            refine thn_normal ?_
            refine W_seq ?_
            refine W_region rfl ?_
            refine WO_p (PS_move_int rfl) ?_
            refine WO_p (PS_mul_u64w rfl rfl) ?_
            refine WO_p (PS_move_int rfl) ?_
            refine WO_p (PS_add_u64w rfl rfl) ?_
            refine WO_p (PS_move_int rfl) ?_
            refine WO_p (PS_move_int rfl) ?_
            refine WO_p (PS_mul_u64w rfl rfl) ?_
            refine WO_p (PS_sub_u64w rfl rfl) ?_
            refine WO_p (PS_assign_int rfl) ?_
            refine WO_nil ?_
            refine thn_normal ?_
            refine W_seq ?_
            refine W_region rfl ?_
            refine WO_p (PS_move_int rfl) ?_
            refine WO_p (PS_move_int rfl) ?_
            refine WO_p (PS_quo_u64 rfl rfl (by omega) (by omega) (by omega)) ?_
            refine WO_p (PS_assign_int rfl) ?_
            refine WO_nil ?_
            refine thn_normal ?_
            refine W_seq ?_
            refine W_region rfl ?_
            refine WO_p (PS_move_int rfl) ?_
            refine WO_p (PS_move_int rfl) ?_
            refine WO_p (PS_move_int rfl) ?_
            refine WO_p (PS_mul_u64w rfl rfl) ?_
            refine WO_p (PS_sub_u64w rfl rfl) ?_
            rw [rem_wrap ⟨by omega, by omega⟩ (by omega)]
            refine WO_p (PS_assign_int rfl) ?_
            refine WO_nil ?_
            refine thn_normal ?_
            refine W_seq ?_
            refine W_block ?_
            refine W_loopN (fun m ρ w' => ∃ q r q1 U2 : Int, (0 ≤ q1 ∧ q1 ≤ 18446744073709551615) ∧ (0 ≤ U2 ∧ U2 ≤ 18446744073709551615) ∧ (0 ≤ q ∧ q ≤ 18446744073709551615) ∧ (0 ≤ r ∧ r < 4294967296) ∧ 4294967296 - r ≤ m ∧ Fr [(2, .int .u64 Y), (8, .int .u64 (64 - n)), (9, .int .u64 (Y / 2 ^ 32)), (10, .int .u64 (Y % 4294967296)), (14, .int .u64 (V % 4294967296)), (16, .int .u64 r), (15, .int .u64 q1), (17, .int .u64 U2), (18, .int .u64 q)] ρ ∧ Ext w w') 4294967296 ?_ ?_
            · refine ⟨_, _, _, _, ?_, ?_, ?_, ?_, ?_, ⟨rfl, rfl, rfl, rfl, rfl, rfl, rfl, rfl, rfl, trivial⟩, hE2⟩
              · omega
              · omega
              · exact quo_bd ⟨by omega, by omega⟩ (by omega)
              · exact ⟨Int.emod_nonneg _ (by omega), Int.lt_trans (Int.emod_lt_of_pos _ (show 0 < Y / 2 ^ 32 by omega)) (by omega)⟩
              · exact Int.le_trans (Int.sub_le_self _ (Int.emod_nonneg _ (by omega))) (by omega)
            intro m2 ρ2 w3 hI
            obtain ⟨q2, r2, q1, U2, hq1, hU2, hq2, hr2, hm2, hF2, hE3⟩ := hI
            refine W_env _ hF2 ?_
            refine W_seq ?_
            refine W_seq ?_
            refine W_region rfl ?_
            refine WO_p (PS_move_int rfl) ?_
            refine WO_p (PS_geq rfl rfl) ?_
            refine WO_p (PS_move_bool rfl) ?_
            refine WO_if (t := 104) rfl (fun hb13 => ?_) (fun hb13 => ?_)
            · have hb13p := hb13.h; try simp only [al_ete, al_dfn, Bool.not_eq_true', Bool.not_eq_false', al_ne, Bool.not_not, al_nn] at hb13p
              refine WO_guardF rfl rfl hb13.h ?_
              refine WO_guardF rfl rfl hb13.h ?_
              refine WO_guardF rfl rfl hb13.h ?_
              refine WO_guardF rfl rfl hb13.h ?_
              refine WO_guardF rfl rfl hb13.h ?_
              refine WO_guardF rfl rfl hb13.h ?_
              refine WO_guardF rfl rfl hb13.h ?_
              refine WO_guardF rfl rfl hb13.h ?_
              refine WO_p (PS_pickT rfl hb13.h rfl) ?_
              refine WO_nil ?_
              refine thn_normal ?_
              refine W_condT rfl rfl ?_
              refine W_skip ?_
              refine thn_normal ?_
              refine W_block ?_
              refine W_seq ?_
              refine W_region rfl ?_
              refine WO_p (PS_move_int rfl) ?_
              refine WO_p (PS_sub_u64w rfl rfl) ?_
              refine WO_p (PS_assign_int rfl) ?_
              refine WO_nil ?_
              refine thn_normal ?_
              refine W_seq ?_
              refine W_region rfl ?_
              refine WO_p (PS_move_int rfl) ?_
              refine WO_p (PS_move_int rfl) ?_
              refine WO_p (PS_add_u64w rfl rfl) ?_
              refine WO_p (PS_assign_int rfl) ?_
              refine WO_nil ?_
              refine thn_normal ?_
              refine W_seq ?_
              refine W_region rfl ?_
              refine WO_p (PS_move_int rfl) ?_
              refine WO_p (PS_geq rfl rfl) ?_
              refine WO_nil ?_
              refine thn_normal ?_
              refine W_if rfl (fun hb15 => ?_) (fun hb15 => ?_)
              · have hb15p := hb15.h; try simp only [al_ete, al_dfn, Bool.not_eq_true', Bool.not_eq_false', al_ne, Bool.not_not, al_nn] at hb15p
                refine W_exit ?_
                refine inBlk_exit_ne (by decide) ?_
                refine thn_exit ?_
                refine inBlk_exit ?_
                refine thn_normal ?_
                refine W_seq ?_
                refine W_region rfl ?_
                refine WO_p (PS_move_int rfl) ?_
                refine WO_p (PS_mul_u64w rfl rfl) ?_
                refine WO_p (PS_move_int rfl) ?_
                refine WO_p (PS_add_u64w rfl rfl) ?_
                refine WO_p (PS_move_int rfl) ?_
                refine WO_p (PS_mul_u64w rfl rfl) ?_
                refine WO_p (PS_move_int rfl) ?_
                refine WO_p (PS_add_u64w rfl rfl) ?_
                refine WO_p (PS_move_int rfl) ?_
                refine WO_p (PS_move_int rfl) ?_
                refine WO_p (PS_mul_u64w rfl rfl) ?_
                refine WO_p (PS_sub_u64w rfl rfl) ?_
                refine WO_p (PS_move_int rfl) ?_
                refine WO_p (PS_shr_u64 _ rfl rfl (by omega) rfl) ?_
                refine WO_p (PS_assign_int rfl) ?_
                refine WO_p (PS_assign_int rfl) ?_
                refine WO_nil ?_
                refine thn_normal ?_
                refine W_ret ?_
                refine bodyQ_ret2 Hvad.results281 rfl rfl (.int _ _) (.int _ _) rfl rfl ?_
                first
                | exact ⟨(by repeat (first | assumption | exact Ext.refl _ | refine Ext.alloc ?_ _ | refine Ext.drew ?_ | refine Ext.setB ?_ (by first | omega | (simp only [size_alloc, size_setB, size_drew]; omega)) _ | refine Ext.trans ?_ (by assumption))), _, _, rfl, quo_bd hl (by omega), ⟨Int.emod_nonneg _ (by omega), by have := Int.emod_lt_of_pos lo (show 0 < y by omega); omega⟩⟩
                | exact ⟨hE3, _, _, rfl, by omega, shr_bd _ (by omega)⟩
              · have hb15p := hb15.h; try simp only [al_ete, al_dfn, Bool.not_eq_true', Bool.not_eq_false', al_ne, Bool.not_not, al_nn] at hb15p
                refine W_skip ?_
                refine inBlk_normal ?_
                refine thn_normal ?_
                exact ⟨m2 - 1, by omega, _, _, q1, U2, hq1, hU2, by omega, ⟨by omega, by omega⟩, by omega, ⟨rfl, rfl, rfl, rfl, rfl, rfl, rfl, rfl, rfl, trivial⟩, hE3⟩
            · have hb13p := hb13.h; try simp only [al_ete, al_dfn, Bool.not_eq_true', Bool.not_eq_false', al_ne, Bool.not_not, al_nn] at hb13p
              refine WO_guardT rfl rfl hb13.h ?_
              refine WO_p (PS_move_int rfl) ?_
              refine WO_guardT rfl rfl hb13.h ?_
              refine WO_p (PS_move_int rfl) ?_
              refine WO_guardT rfl rfl hb13.h ?_
              refine WO_p (PS_mul_u64w rfl rfl) ?_
              refine WO_guardT rfl rfl hb13.h ?_
              refine WO_p (PS_move_int rfl) ?_
              refine WO_guardT rfl rfl hb13.h ?_
              refine WO_p (PS_mul_u64w rfl rfl) ?_
              refine WO_guardT rfl rfl hb13.h ?_
              refine WO_p (PS_move_int rfl) ?_
              refine WO_guardT rfl rfl hb13.h ?_
              refine WO_p (PS_add_u64w rfl rfl) ?_
              refine WO_guardT rfl rfl hb13.h ?_
              refine WO_p (PS_gtr rfl rfl) ?_
              refine WO_p (PS_pickF rfl hb13.h rfl) ?_
              refine WO_nil ?_
              refine thn_normal ?_
              refine W_if rfl (fun hb17 => ?_) (fun hb17 => ?_)
              · have hb17p := hb17.h; try simp only [al_ete, al_dfn, Bool.not_eq_true', Bool.not_eq_false', al_ne, Bool.not_not, al_nn] at hb17p
                refine W_skip ?_
                refine thn_normal ?_
                refine W_block ?_
                refine W_seq ?_
                refine W_region rfl ?_
                refine WO_p (PS_move_int rfl) ?_
                refine WO_p (PS_sub_u64w rfl rfl) ?_
                refine WO_p (PS_assign_int rfl) ?_
                refine WO_nil ?_
                refine thn_normal ?_
                refine W_seq ?_
                refine W_region rfl ?_
                refine WO_p (PS_move_int rfl) ?_
                refine WO_p (PS_move_int rfl) ?_
                refine WO_p (PS_add_u64w rfl rfl) ?_
                refine WO_p (PS_assign_int rfl) ?_
                refine WO_nil ?_
                refine thn_normal ?_
                refine W_seq ?_
                refine W_region rfl ?_
                refine WO_p (PS_move_int rfl) ?_
                refine WO_p (PS_geq rfl rfl) ?_
                refine WO_nil ?_
                refine thn_normal ?_
                refine W_if rfl (fun hb19 => ?_) (fun hb19 => ?_)
                · have hb19p := hb19.h; try simp only [al_ete, al_dfn, Bool.not_eq_true', Bool.not_eq_false', al_ne, Bool.not_not, al_nn] at hb19p
                  refine W_exit ?_
                  refine inBlk_exit_ne (by decide) ?_
                  refine thn_exit ?_
                  refine inBlk_exit ?_
                  refine thn_normal ?_
                  refine W_seq ?_
                  refine W_region rfl ?_
                  refine WO_p (PS_move_int rfl) ?_
                  refine WO_p (PS_mul_u64w rfl rfl) ?_
                  refine WO_p (PS_move_int rfl) ?_
                  refine WO_p (PS_add_u64w rfl rfl) ?_
                  refine WO_p (PS_move_int rfl) ?_
                  refine WO_p (PS_mul_u64w rfl rfl) ?_
                  refine WO_p (PS_move_int rfl) ?_
                  refine WO_p (PS_add_u64w rfl rfl) ?_
                  refine WO_p (PS_move_int rfl) ?_
                  refine WO_p (PS_move_int rfl) ?_
                  refine WO_p (PS_mul_u64w rfl rfl) ?_
                  refine WO_p (PS_sub_u64w rfl rfl) ?_
                  refine WO_p (PS_move_int rfl) ?_
                  refine WO_p (PS_shr_u64 _ rfl rfl (by omega) rfl) ?_
                  refine WO_p (PS_assign_int rfl) ?_
                  refine WO_p (PS_assign_int rfl) ?_
                  refine WO_nil ?_
                  refine thn_normal ?_
                  refine W_ret ?_
                  refine bodyQ_ret2 Hvad.results281 rfl rfl (.int _ _) (.int _ _) rfl rfl ?_
                  first
                  | exact ⟨(by repeat (first | assumption | exact Ext.refl _ | refine Ext.alloc ?_ _ | refine Ext.drew ?_ | refine Ext.setB ?_ (by first | omega | (simp only [size_alloc, size_setB, size_drew]; omega)) _ | refine Ext.trans ?_ (by assumption))), _, _, rfl, quo_bd hl (by omega), ⟨Int.emod_nonneg _ (by omega), by have := Int.emod_lt_of_pos lo (show 0 < y by omega); omega⟩⟩
                  | exact ⟨hE3, _, _, rfl, by omega, shr_bd _ (by omega)⟩
                · have hb19p := hb19.h; try simp only [al_ete, al_dfn, Bool.not_eq_true', Bool.not_eq_false', al_ne, Bool.not_not, al_nn] at hb19p
                  refine W_skip ?_
                  refine inBlk_normal ?_
                  refine thn_normal ?_
                  exact ⟨m2 - 1, by omega, _, _, q1, U2, hq1, hU2, by omega, ⟨by omega, by omega⟩, by omega, ⟨rfl, rfl, rfl, rfl, rfl, rfl, rfl, rfl, rfl, trivial⟩, hE3⟩
              · have hb17p := hb17.h; try simp only [al_ete, al_dfn, Bool.not_eq_true', Bool.not_eq_false', al_ne, Bool.not_not, al_nn] at hb17p
                refine W_exit ?_
                refine thn_exit ?_
                refine thn_exit ?_
                refine inBlk_exit ?_
                refine thn_normal ?_
                refine W_seq ?_
                refine W_region rfl ?_
                refine WO_p (PS_move_int rfl) ?_
                refine WO_p (PS_mul_u64w rfl rfl) ?_
                refine WO_p (PS_move_int rfl) ?_
                refine WO_p (PS_add_u64w rfl rfl) ?_
                refine WO_p (PS_move_int rfl) ?_
                refine WO_p (PS_mul_u64w rfl rfl) ?_
                refine WO_p (PS_move_int rfl) ?_
                refine WO_p (PS_add_u64w rfl rfl) ?_
                refine WO_p (PS_move_int rfl) ?_
                refine WO_p (PS_move_int rfl) ?_
                refine WO_p (PS_mul_u64w rfl rfl) ?_
                refine WO_p (PS_sub_u64w rfl rfl) ?_
                refine WO_p (PS_move_int rfl) ?_
                refine WO_p (PS_shr_u64 _ rfl rfl (by omega) rfl) ?_
                refine WO_p (PS_assign_int rfl) ?_
                refine WO_p (PS_assign_int rfl) ?_
                refine WO_nil ?_
                refine thn_normal ?_
                refine W_ret ?_
                refine bodyQ_ret2 Hvad.results281 rfl rfl (.int _ _) (.int _ _) rfl rfl ?_
                first
                | exact ⟨(by repeat (first | assumption | exact Ext.refl _ | refine Ext.alloc ?_ _ | refine Ext.drew ?_ | refine Ext.setB ?_ (by first | omega | (simp only [size_alloc, size_setB, size_drew]; omega)) _ | refine Ext.trans ?_ (by assumption))), _, _, rfl, quo_bd hl (by omega), ⟨Int.emod_nonneg _ (by omega), by have := Int.emod_lt_of_pos lo (show 0 < y by omega); omega⟩⟩
                | exact ⟨hE3, _, _, rfl, by omega, shr_bd _ (by omega)⟩
          · have hb11p := hb11.h; try simp only [al_ete, al_dfn, Bool.not_eq_true', Bool.not_eq_false', al_ne, Bool.not_not, al_nn] at hb11p
            refine W_skip ?_
            refine inBlk_normal ?_
            refine thn_normal ?_
            exact ⟨m - 1, by omega, _, _, by omega, ⟨by omega, by omega⟩, by omega, ⟨rfl, rfl, rfl, rfl, rfl, rfl, rfl, rfl, rfl, trivial⟩, hE2⟩
        · have hb9p := hb9.h; try simp only [al_ete, al_dfn, Bool.not_eq_true', Bool.not_eq_false', al_ne, Bool.not_not, al_nn] at hb9p
          refine WO_guardT rfl rfl hb9.h ?_
          refine WO_p (PS_move_int rfl) ?_
          refine WO_guardT rfl rfl hb9.h ?_
          refine WO_p (PS_move_int rfl) ?_
          refine WO_guardT rfl rfl hb9.h ?_
          refine WO_p (PS_mul_u64w rfl rfl) ?_
          refine WO_guardT rfl rfl hb9.h ?_
          refine WO_p (PS_move_int rfl) ?_
          refine WO_guardT rfl rfl hb9.h ?_
          refine WO_p (PS_mul_u64w rfl rfl) ?_
          refine WO_guardT rfl rfl hb9.h ?_
          refine WO_p (PS_move_int rfl) ?_
          refine WO_guardT rfl rfl hb9.h ?_
          refine WO_p (PS_add_u64w rfl rfl) ?_
          refine WO_guardT rfl rfl hb9.h ?_
          refine WO_p (PS_gtr rfl rfl) ?_
          refine WO_p (PS_pickF rfl hb9.h rfl) ?_
          refine WO_nil ?_
          refine thn_normal ?_
          refine W_if rfl (fun hb21 => ?_) (fun hb21 => ?_)
          · have hb21p := hb21.h; try simp only [al_ete, al_dfn, Bool.not_eq_true', Bool.not_eq_false', al_ne, Bool.not_not, al_nn] at hb21p
            refine W_skip ?_
            refine thn_normal ?_
            refine W_block ?_
            refine W_seq ?_
            refine W_region rfl ?_
            refine WO_p (PS_move_int rfl) ?_
            refine WO_p (PS_sub_u64w rfl rfl) ?_
            refine WO_p (PS_assign_int rfl) ?_
            refine WO_nil ?_
            refine thn_normal ?_
            refine W_seq ?_
            refine W_region rfl ?_
            refine WO_p (PS_move_int rfl) ?_
            refine WO_p (PS_move_int rfl) ?_
            refine WO_p (PS_add_u64w rfl rfl) ?_
            refine WO_p (PS_assign_int rfl) ?_
            refine WO_nil ?_
            refine thn_normal ?_
            refine W_seq ?_
            refine W_region rfl ?_
            refine WO_p (PS_move_int rfl) ?_
            refine WO_p (PS_geq rfl rfl) ?_
            refine WO_nil ?_
            refine thn_normal ?_
            refine W_if rfl (fun hb23 => ?_) (fun hb23 => ?_)
            · have hb23p := hb23.h; try simp only [al_ete, al_dfn, Bool.not_eq_true', Bool.not_eq_false', al_ne, Bool.not_not, al_nn] at hb23p
              refine W_exit ?_
              refine inBlk_exit_ne (by decide) ?_
              refine thn_exit ?_
              refine inBlk_exit ?_
              refine thn_normal ?_
              refine W_seq ?_
              refine W_region rfl ?_
              refine WO_p (PS_move_int rfl) ?_
              refine WO_p (PS_mul_u64w rfl rfl) ?_
              refine WO_p (PS_move_int rfl) ?_
              refine WO_p (PS_add_u64w rfl rfl) ?_
              refine WO_p (PS_move_int rfl) ?_
              refine WO_p (PS_move_int rfl) ?_
              refine WO_p (PS_mul_u64w rfl rfl) ?_
              refine WO_p (PS_sub_u64w rfl rfl) ?_
              refine WO_p (PS_assign_int rfl) ?_
              refine WO_nil ?_
              refine thn_normal ?_
              refine W_seq ?_
              refine W_region rfl ?_
              refine WO_p (PS_move_int rfl) ?_
              refine WO_p (PS_move_int rfl) ?_
              refine WO_p (PS_quo_u64 rfl rfl (by omega) (by omega) (by omega)) ?_
              refine WO_p (PS_assign_int rfl) ?_
              refine WO_nil ?_
              refine thn_normal ?_
              refine W_seq ?_
              refine W_region rfl ?_
              refine WO_p (PS_move_int rfl) ?_
              refine WO_p (PS_move_int rfl) ?_
              refine WO_p (PS_move_int rfl) ?_
              refine WO_p (PS_mul_u64w rfl rfl) ?_
              refine WO_p (PS_sub_u64w rfl rfl) ?_
              rw [rem_wrap ⟨by omega, by omega⟩ (by omega)]
              refine WO_p (PS_assign_int rfl) ?_
              refine WO_nil ?_
              refine thn_normal ?_
              refine W_seq ?_
              refine W_block ?_
              refine W_loopN (fun m ρ w' => ∃ q r q1 U2 : Int, (0 ≤ q1 ∧ q1 ≤ 18446744073709551615) ∧ (0 ≤ U2 ∧ U2 ≤ 18446744073709551615) ∧ (0 ≤ q ∧ q ≤ 18446744073709551615) ∧ (0 ≤ r ∧ r < 4294967296) ∧ 4294967296 - r ≤ m ∧ Fr [(2, .int .u64 Y), (8, .int .u64 (64 - n)), (9, .int .u64 (Y / 2 ^ 32)), (10, .int .u64 (Y % 4294967296)), (14, .int .u64 (V % 4294967296)), (16, .int .u64 r), (15, .int .u64 q1), (17, .int .u64 U2), (18, .int .u64 q)] ρ ∧ Ext w w') 4294967296 ?_ ?_
              · refine ⟨_, _, _, _, ?_, ?_, ?_, ?_, ?_, ⟨rfl, rfl, rfl, rfl, rfl, rfl, rfl, rfl, rfl, trivial⟩, hE2⟩
                · omega
                · omega
                · exact quo_bd ⟨by omega, by omega⟩ (by omega)
                · exact ⟨Int.emod_nonneg _ (by omega), Int.lt_trans (Int.emod_lt_of_pos _ (show 0 < Y / 2 ^ 32 by omega)) (by omega)⟩
                · exact Int.le_trans (Int.sub_le_self _ (Int.emod_nonneg _ (by omega))) (by omega)
              intro m2 ρ2 w3 hI
              obtain ⟨q2, r2, q1, U2, hq1, hU2, hq2, hr2, hm2, hF2, hE3⟩ := hI
              refine W_env _ hF2 ?_
              refine W_seq ?_
              refine W_seq ?_
              refine W_region rfl ?_
              refine WO_p (PS_move_int rfl) ?_
              refine WO_p (PS_geq rfl rfl) ?_
              refine WO_p (PS_move_bool rfl) ?_
              refine WO_if (t := 104) rfl (fun hb25 => ?_) (fun hb25 => ?_)
              · have hb25p := hb25.h; try simp only [al_ete, al_dfn, Bool.not_eq_true', Bool.not_eq_false', al_ne, Bool.not_not, al_nn] at hb25p
                refine WO_guardF rfl rfl hb25.h ?_
                refine WO_guardF rfl rfl hb25.h ?_
                refine WO_guardF rfl rfl hb25.h ?_
                refine WO_guardF rfl rfl hb25.h ?_
                refine WO_guardF rfl rfl hb25.h ?_
                refine WO_guardF rfl rfl hb25.h ?_
                refine WO_guardF rfl rfl hb25.h ?_
                refine WO_guardF rfl rfl hb25.h ?_
                refine WO_p (PS_pickT rfl hb25.h rfl) ?_
                refine WO_nil ?_
                refine thn_normal ?_
                refine W_condT rfl rfl ?_
                refine W_skip ?_
                refine thn_normal ?_
                refine W_block ?_
                refine W_seq ?_
                refine W_region rfl ?_
                refine WO_p (PS_move_int rfl) ?_
                refine WO_p (PS_sub_u64w rfl rfl) ?_
                refine WO_p (PS_assign_int rfl) ?_
                refine WO_nil ?_
                refine thn_normal ?_
                refine W_seq ?_
                refine W_region rfl ?_
                refine WO_p (PS_move_int rfl) ?_
                refine WO_p (PS_move_int rfl) ?_
                refine WO_p (PS_add_u64w rfl rfl) ?_
                refine WO_p (PS_assign_int rfl) ?_
                refine WO_nil ?_
                refine thn_normal ?_
                refine W_seq ?_
                refine W_region rfl ?_
                refine WO_p (PS_move_int rfl) ?_
                refine WO_p (PS_geq rfl rfl) ?_
                refine WO_nil ?_
                refine thn_normal ?_
                refine W_if rfl (fun hb27 => ?_) (fun hb27 => ?_)
                · have hb27p := hb27.h; try simp only [al_ete, al_dfn, Bool.not_eq_true', Bool.not_eq_false', al_ne, Bool.not_not, al_nn] at hb27p
                  refine W_exit ?_
                  refine inBlk_exit_ne (by decide) ?_
                  refine thn_exit ?_
                  refine inBlk_exit ?_
                  refine thn_normal ?_
                  refine W_seq ?_
                  refine W_region rfl ?_
                  refine WO_p (PS_move_int rfl) ?_
                  refine WO_p (PS_mul_u64w rfl rfl) ?_
                  refine WO_p (PS_move_int rfl) ?_
                  refine WO_p (PS_add_u64w rfl rfl) ?_
                  refine WO_p (PS_move_int rfl) ?_
                  refine WO_p (PS_mul_u64w rfl rfl) ?_
                  refine WO_p (PS_move_int rfl) ?_
                  refine WO_p (PS_add_u64w rfl rfl) ?_
                  refine WO_p (PS_move_int rfl) ?_
                  refine WO_p (PS_move_int rfl) ?_
                  refine WO_p (PS_mul_u64w rfl rfl) ?_
                  refine WO_p (PS_sub_u64w rfl rfl) ?_
                  refine WO_p (PS_move_int rfl) ?_
                  refine WO_p (PS_shr_u64 _ rfl rfl (by omega) rfl) ?_
                  refine WO_p (PS_assign_int rfl) ?_
                  refine WO_p (PS_assign_int rfl) ?_
                  refine WO_nil ?_
                  refine thn_normal ?_
                  refine W_ret ?_
                  refine bodyQ_ret2 Hvad.results281 rfl rfl (.int _ _) (.int _ _) rfl rfl ?_
                  first
                  | exact ⟨(by repeat (first | assumption | exact Ext.refl _ | refine Ext.alloc ?_ _ | refine Ext.drew ?_ | refine Ext.setB ?_ (by first | omega | (simp only [size_alloc, size_setB, size_drew]; omega)) _ | refine Ext.trans ?_ (by assumption))), _, _, rfl, quo_bd hl (by omega), ⟨Int.emod_nonneg _ (by omega), by have := Int.emod_lt_of_pos lo (show 0 < y by omega); omega⟩⟩
                  | exact ⟨hE3, _, _, rfl, by omega, shr_bd _ (by omega)⟩
                · have hb27p := hb27.h; try simp only [al_ete, al_dfn, Bool.not_eq_true', Bool.not_eq_false', al_ne, Bool.not_not, al_nn] at hb27p
                  refine W_skip ?_
                  refine inBlk_normal ?_
                  refine thn_normal ?_
                  exact ⟨m2 - 1, by omega, _, _, q1, U2, hq1, hU2, by omega, ⟨by omega, by omega⟩, by omega, ⟨rfl, rfl, rfl, rfl, rfl, rfl, rfl, rfl, rfl, trivial⟩, hE3⟩
              · have hb25p := hb25.h; try simp only [al_ete, al_dfn, Bool.not_eq_true', Bool.not_eq_false', al_ne, Bool.not_not, al_nn] at hb25p
                refine WO_guardT rfl rfl hb25.h ?_
                refine WO_p (PS_move_int rfl) ?_
                refine WO_guardT rfl rfl hb25.h ?_
                refine WO_p (PS_move_int rfl) ?_
                refine WO_guardT rfl rfl hb25.h ?_
                refine WO_p (PS_mul_u64w rfl rfl) ?_
                refine WO_guardT rfl rfl hb25.h ?_
                refine WO_p (PS_move_int rfl) ?_
                refine WO_guardT rfl rfl hb25.h ?_
                refine WO_p (PS_mul_u64w rfl rfl) ?_
                refine WO_guardT rfl rfl hb25.h ?_
                refine WO_p (PS_move_int rfl) ?_
                refine WO_guardT rfl rfl hb25.h ?_
                refine WO_p (PS_add_u64w rfl rfl) ?_
                refine WO_guardT rfl rfl hb25.h ?_
                refine WO_p (PS_gtr rfl rfl) ?_
                refine WO_p (PS_pickF rfl hb25.h rfl) ?_
                refine WO_nil ?_
                refine thn_normal ?_
                refine W_if rfl (fun hb29 => ?_) (fun hb29 => ?_)
                · have hb29p := hb29.h; try simp only [al_ete, al_dfn, Bool.not_eq_true', Bool.not_eq_false', al_ne, Bool.not_not, al_nn] at hb29p
                  refine W_skip ?_
                  refine thn_normal ?_
                  refine W_block ?_
                  refine W_seq ?_
                  refine W_region rfl ?_
                  refine WO_p (PS_move_int rfl) ?_
                  refine WO_p (PS_sub_u64w rfl rfl) ?_
                  refine WO_p (PS_assign_int rfl) ?_
                  refine WO_nil ?_
                  refine thn_normal ?_
                  refine W_seq ?_
                  refine W_region rfl ?_
                  refine WO_p (PS_move_int rfl) ?_
                  refine WO_p (PS_move_int rfl) ?_
                  refine WO_p (PS_add_u64w rfl rfl) ?_
                  refine WO_p (PS_assign_int rfl) ?_
                  refine WO_nil ?_
                  refine thn_normal ?_
                  refine W_seq ?_
                  refine W_region rfl ?_
                  refine WO_p (PS_move_int rfl) ?_
                  refine WO_p (PS_geq rfl rfl) ?_
                  refine WO_nil ?_
                  refine thn_normal ?_
                  refine W_if rfl (fun hb31 => ?_) (fun hb31 => ?_)
                  · have hb31p := hb31.h; try simp only [al_ete, al_dfn, Bool.not_eq_true', Bool.not_eq_false', al_ne, Bool.not_not, al_nn] at hb31p
                    refine W_exit ?_
                    refine inBlk_exit_ne (by decide) ?_
                    refine thn_exit ?_
                    refine inBlk_exit ?_
                    refine thn_normal ?_
                    refine W_seq ?_
                    refine W_region rfl ?_
                    refine WO_p (PS_move_int rfl) ?_
                    refine WO_p (PS_mul_u64w rfl rfl) ?_
                    refine WO_p (PS_move_int rfl) ?_
                    refine WO_p (PS_add_u64w rfl rfl) ?_
                    refine WO_p (PS_move_int rfl) ?_
                    refine WO_p (PS_mul_u64w rfl rfl) ?_
                    refine WO_p (PS_move_int rfl) ?_
                    refine WO_p (PS_add_u64w rfl rfl) ?_
                    refine WO_p (PS_move_int rfl) ?_
                    refine WO_p (PS_move_int rfl) ?_
                    refine WO_p (PS_mul_u64w rfl rfl) ?_
                    refine WO_p (PS_sub_u64w rfl rfl) ?_
                    refine WO_p (PS_move_int rfl) ?_
                    refine WO_p (PS_shr_u64 _ rfl rfl (by omega) rfl) ?_
                    refine WO_p (PS_assign_int rfl) ?_
                    refine WO_p (PS_assign_int rfl) ?_
                    refine WO_nil ?_
                    refine thn_normal ?_
                    refine W_ret ?_
                    refine bodyQ_ret2 Hvad.results281 rfl rfl (.int _ _) (.int _ _) rfl rfl ?_
                    first
                    | exact ⟨(by repeat (first | assumption | exact Ext.refl _ | refine Ext.alloc ?_ _ | refine Ext.drew ?_ | refine Ext.setB ?_ (by first | omega | (simp only [size_alloc, size_setB, size_drew]; omega)) _ | refine Ext.trans ?_ (by assumption))), _, _, rfl, quo_bd hl (by omega), ⟨Int.emod_nonneg _ (by omega), by have := Int.emod_lt_of_pos lo (show 0 < y by omega); omega⟩⟩
                    | exact ⟨hE3, _, _, rfl, by omega, shr_bd _ (by omega)⟩
                  · have hb31p := hb31.h; try simp only [al_ete, al_dfn, Bool.not_eq_true', Bool.not_eq_false', al_ne, Bool.not_not, al_nn] at hb31p
                    refine W_skip ?_
                    refine inBlk_normal ?_
                    refine thn_normal ?_
                    exact ⟨m2 - 1, by omega, _, _, q1, U2, hq1, hU2, by omega, ⟨by omega, by omega⟩, by omega, ⟨rfl, rfl, rfl, rfl, rfl, rfl, rfl, rfl, rfl, trivial⟩, hE3⟩
                · have hb29p := hb29.h; try simp only [al_ete, al_dfn, Bool.not_eq_true', Bool.not_eq_false', al_ne, Bool.not_not, al_nn] at hb29p
                  refine W_exit ?_
                  refine thn_exit ?_
                  refine thn_exit ?_
                  refine inBlk_exit ?_
                  refine thn_normal ?_
                  refine W_seq ?_
                  refine W_region rfl ?_
                  refine WO_p (PS_move_int rfl) ?_
                  refine WO_p (PS_mul_u64w rfl rfl) ?_
                  refine WO_p (PS_move_int rfl) ?_
                  refine WO_p (PS_add_u64w rfl rfl) ?_
                  refine WO_p (PS_move_int rfl) ?_
                  refine WO_p (PS_mul_u64w rfl rfl) ?_
                  refine WO_p (PS_move_int rfl) ?_
                  refine WO_p (PS_add_u64w rfl rfl) ?_
                  refine WO_p (PS_move_int rfl) ?_
                  refine WO_p (PS_move_int rfl) ?_
                  refine WO_p (PS_mul_u64w rfl rfl) ?_
                  refine WO_p (PS_sub_u64w rfl rfl) ?_
                  refine WO_p (PS_move_int rfl) ?_
                  refine WO_p (PS_shr_u64 _ rfl rfl (by omega) rfl) ?_
                  refine WO_p (PS_assign_int rfl) ?_
                  refine WO_p (PS_assign_int rfl) ?_
                  refine WO_nil ?_
                  refine thn_normal ?_
                  refine W_ret ?_
                  refine bodyQ_ret2 Hvad.results281 rfl rfl (.int _ _) (.int _ _) rfl rfl ?_
                  first
                  | exact ⟨(by repeat (first | assumption | exact Ext.refl _ | refine Ext.alloc ?_ _ | refine Ext.drew ?_ | refine Ext.setB ?_ (by first | omega | (simp only [size_alloc, size_setB, size_drew]; omega)) _ | refine Ext.trans ?_ (by assumption))), _, _, rfl, quo_bd hl (by omega), ⟨Int.emod_nonneg _ (by omega), by have := Int.emod_lt_of_pos lo (show 0 < y by omega); omega⟩⟩
                  | exact ⟨hE3, _, _, rfl, by omega, shr_bd _ (by omega)⟩
            · have hb23p := hb23.h; try simp only [al_ete, al_dfn, Bool.not_eq_true', Bool.not_eq_false', al_ne, Bool.not_not, al_nn] at hb23p
              refine W_skip ?_
              refine inBlk_normal ?_
              refine thn_normal ?_
              exact ⟨m - 1, by omega, _, _, by omega, ⟨by omega, by omega⟩, by omega, ⟨rfl, rfl, rfl, rfl, rfl, rfl, rfl, rfl, rfl, trivial⟩, hE2⟩
          · have hb21p := hb21.h; try simp only [al_ete, al_dfn, Bool.not_eq_true', Bool.not_eq_false', al_ne, Bool.not_not, al_nn] at hb21p
            refine W_exit ?_
            refine thn_exit ?_
            refine thn_exit ?_
            refine inBlk_exit ?_
            refine thn_normal ?_
            refine W_seq ?_
            refine W_region rfl ?_
            refine WO_p (PS_move_int rfl) ?_
            refine WO_p (PS_mul_u64w rfl rfl) ?_
            refine WO_p (PS_move_int rfl) ?_
            refine WO_p (PS_add_u64w rfl rfl) ?_
            refine WO_p (PS_move_int rfl) ?_
            refine WO_p (PS_move_int rfl) ?_
            refine WO_p (PS_mul_u64w rfl rfl) ?_
            refine WO_p (PS_sub_u64w rfl rfl) ?_
            refine WO_p (PS_assign_int rfl) ?_
            refine WO_nil ?_
            refine thn_normal ?_
            refine W_seq ?_
            refine W_region rfl ?_
            refine WO_p (PS_move_int rfl) ?_
            refine WO_p (PS_move_int rfl) ?_
            refine WO_p (PS_quo_u64 rfl rfl (by omega) (by omega) (by omega)) ?_
            refine WO_p (PS_assign_int rfl) ?_
            refine WO_nil ?_
            refine thn_normal ?_
            refine W_seq ?_
            refine W_region rfl ?_
            refine WO_p (PS_move_int rfl) ?_
            refine WO_p (PS_move_int rfl) ?_
            refine WO_p (PS_move_int rfl) ?_
            refine WO_p (PS_mul_u64w rfl rfl) ?_
            refine WO_p (PS_sub_u64w rfl rfl) ?_
            rw [rem_wrap ⟨by omega, by omega⟩ (by omega)]
            refine WO_p (PS_assign_int rfl) ?_
            refine WO_nil ?_
            refine thn_normal ?_
            refine W_seq ?_
            refine W_block ?_
            refine W_loopN (fun m ρ w' => ∃ q r q1 U2 : Int, (0 ≤ q1 ∧ q1 ≤ 18446744073709551615) ∧ (0 ≤ U2 ∧ U2 ≤ 18446744073709551615) ∧ (0 ≤ q ∧ q ≤ 18446744073709551615) ∧ (0 ≤ r ∧ r < 4294967296) ∧ 4294967296 - r ≤ m ∧ Fr [(2, .int .u64 Y), (8, .int .u64 (64 - n)), (9, .int .u64 (Y / 2 ^ 32)), (10, .int .u64 (Y % 4294967296)), (14, .int .u64 (V % 4294967296)), (16, .int .u64 r), (15, .int .u64 q1), (17, .int .u64 U2), (18, .int .u64 q)] ρ ∧ Ext w w') 4294967296 ?_ ?_
            · refine ⟨_, _, _, _, ?_, ?_, ?_, ?_, ?_, ⟨rfl, rfl, rfl, rfl, rfl, rfl, rfl, rfl, rfl, trivial⟩, hE2⟩
              · omega
              · omega
              · exact quo_bd ⟨by omega, by omega⟩ (by omega)
              · exact ⟨Int.emod_nonneg _ (by omega), Int.lt_trans (Int.emod_lt_of_pos _ (show 0 < Y / 2 ^ 32 by omega)) (by omega)⟩
              · exact Int.le_trans (Int.sub_le_self _ (Int.emod_nonneg _ (by omega))) (by omega)
            intro m2 ρ2 w3 hI
            obtain ⟨q2, r2, q1, U2, hq1, hU2, hq2, hr2, hm2, hF2, hE3⟩ := hI
            refine W_env _ hF2 ?_
            refine W_seq ?_
            refine W_seq ?_
            refine W_region rfl ?_
            refine WO_p (PS_move_int rfl) ?_
            refine WO_p (PS_geq rfl rfl) ?_
            refine WO_p (PS_move_bool rfl) ?_
            refine WO_if (t := 104) rfl (fun hb33 => ?_) (fun hb33 => ?_)
            · have hb33p := hb33.h; try simp only [al_ete, al_dfn, Bool.not_eq_true', Bool.not_eq_false', al_ne, Bool.not_not, al_nn] at hb33p
              refine WO_guardF rfl rfl hb33.h ?_
              refine WO_guardF rfl rfl hb33.h ?_
              refine WO_guardF rfl rfl hb33.h ?_
              refine WO_guardF rfl rfl hb33.h ?_
              refine WO_guardF rfl rfl hb33.h ?_
              refine WO_guardF rfl rfl hb33.h ?_
              refine WO_guardF rfl rfl hb33.h ?_
              refine WO_guardF rfl rfl hb33.h ?_
              refine WO_p (PS_pickT rfl hb33.h rfl) ?_
              refine WO_nil ?_
              refine thn_normal ?_
              refine W_condT rfl rfl ?_
              refine W_skip ?_
              refine thn_normal ?_
              refine W_block ?_
              refine W_seq ?_
              refine W_region rfl ?_
              refine WO_p (PS_move_int rfl) ?_
              refine WO_p (PS_sub_u64w rfl rfl) ?_
              refine WO_p (PS_assign_int rfl) ?_
              refine WO_nil ?_
              refine thn_normal ?_
              refine W_seq ?_
              refine W_region rfl ?_
              refine WO_p (PS_move_int rfl) ?_
              refine WO_p (PS_move_int rfl) ?_
              refine WO_p (PS_add_u64w rfl rfl) ?_
              refine WO_p (PS_assign_int rfl) ?_
              refine WO_nil ?_
              refine thn_normal ?_
              refine W_seq ?_
              refine W_region rfl ?_
              refine WO_p (PS_move_int rfl) ?_
              refine WO_p (PS_geq rfl rfl) ?_
              refine WO_nil ?_
              refine thn_normal ?_
              refine W_if rfl (fun hb35 => ?_) (fun hb35 => ?_)
              · have hb35p := hb35.h; try simp only [al_ete, al_dfn, Bool.not_eq_true', Bool.not_eq_false', al_ne, Bool.not_not, al_nn] at hb35p
                refine W_exit ?_
                refine inBlk_exit_ne (by decide) ?_
                refine thn_exit ?_
                refine inBlk_exit ?_
                refine thn_normal ?_
                refine W_seq ?_
                refine W_region rfl ?_
                refine WO_p (PS_move_int rfl) ?_
                refine WO_p (PS_mul_u64w rfl rfl) ?_
                refine WO_p (PS_move_int rfl) ?_
                refine WO_p (PS_add_u64w rfl rfl) ?_
                refine WO_p (PS_move_int rfl) ?_
                refine WO_p (PS_mul_u64w rfl rfl) ?_
                refine WO_p (PS_move_int rfl) ?_
                refine WO_p (PS_add_u64w rfl rfl) ?_
                refine WO_p (PS_move_int rfl) ?_
                refine WO_p (PS_move_int rfl) ?_
                refine WO_p (PS_mul_u64w rfl rfl) ?_
                refine WO_p (PS_sub_u64w rfl rfl) ?_
                refine WO_p (PS_move_int rfl) ?_
                refine WO_p (PS_shr_u64 _ rfl rfl (by omega) rfl) ?_
                refine WO_p (PS_assign_int rfl) ?_
                refine WO_p (PS_assign_int rfl) ?_
                refine WO_nil ?_
                refine thn_normal ?_
                refine W_ret ?_
                refine bodyQ_ret2 Hvad.results281 rfl rfl (.int _ _) (.int _ _) rfl rfl ?_
                first
                | exact ⟨(by repeat (first | assumption | exact Ext.refl _ | refine Ext.alloc ?_ _ | refine Ext.drew ?_ | refine Ext.setB ?_ (by first | omega | (simp only [size_alloc, size_setB, size_drew]; omega)) _ | refine Ext.trans ?_ (by assumption))), _, _, rfl, quo_bd hl (by omega), ⟨Int.emod_nonneg _ (by omega), by have := Int.emod_lt_of_pos lo (show 0 < y by omega); omega⟩⟩
                | exact ⟨hE3, _, _, rfl, by omega, shr_bd _ (by omega)⟩
              · have hb35p := hb35.h; try simp only [al_ete, al_dfn, Bool.not_eq_true', Bool.not_eq_false', al_ne, Bool.not_not, al_nn] at hb35p
                refine W_skip ?_
                refine inBlk_normal ?_
                refine thn_normal ?_
                exact ⟨m2 - 1, by omega, _, _, q1, U2, hq1, hU2, by omega, ⟨by omega, by omega⟩, by omega, ⟨rfl, rfl, rfl, rfl, rfl, rfl, rfl, rfl, rfl, trivial⟩, hE3⟩
            · have hb33p := hb33.h; try simp only [al_ete, al_dfn, Bool.not_eq_true', Bool.not_eq_false', al_ne, Bool.not_not, al_nn] at hb33p
              refine WO_guardT rfl rfl hb33.h ?_
              refine WO_p (PS_move_int rfl) ?_
              refine WO_guardT rfl rfl hb33.h ?_
              refine WO_p (PS_move_int rfl) ?_
              refine WO_guardT rfl rfl hb33.h ?_
              refine WO_p (PS_mul_u64w rfl rfl) ?_
              refine WO_guardT rfl rfl hb33.h ?_
              refine WO_p (PS_move_int rfl) ?_
              refine WO_guardT rfl rfl hb33.h ?_
              refine WO_p (PS_mul_u64w rfl rfl) ?_
              refine WO_guardT rfl rfl hb33.h ?_
              refine WO_p (PS_move_int rfl) ?_
              refine WO_guardT rfl rfl hb33.h ?_
              refine WO_p (PS_add_u64w rfl rfl) ?_
              refine WO_guardT rfl rfl hb33.h ?_
              refine WO_p (PS_gtr rfl rfl) ?_
              refine WO_p (PS_pickF rfl hb33.h rfl) ?_
              refine WO_nil ?_
              refine thn_normal ?_
              refine W_if rfl (fun hb37 => ?_) (fun hb37 => ?_)
              · have hb37p := hb37.h; try simp only [al_ete, al_dfn, Bool.not_eq_true', Bool.not_eq_false', al_ne, Bool.not_not, al_nn] at hb37p
                refine W_skip ?_
                refine thn_normal ?_
                refine W_block ?_
                refine W_seq ?_
                refine W_region rfl ?_
                refine WO_p (PS_move_int rfl) ?_
                refine WO_p (PS_sub_u64w rfl rfl) ?_
                refine WO_p (PS_assign_int rfl) ?_
                refine WO_nil ?_
                refine thn_normal ?_
                refine W_seq ?_
                refine W_region rfl ?_
                refine WO_p (PS_move_int rfl) ?_
                refine WO_p (PS_move_int rfl) ?_
                refine WO_p (PS_add_u64w rfl rfl) ?_
                refine WO_p (PS_assign_int rfl) ?_
                refine WO_nil ?_
                refine thn_normal ?_
                refine W_seq ?_
                refine W_region rfl ?_
                refine WO_p (PS_move_int rfl) ?_
                refine WO_p (PS_geq rfl rfl) ?_
                refine WO_nil ?_
                refine thn_normal ?_
                refine W_if rfl (fun hb39 => ?_) (fun hb39 => ?_)
                · have hb39p := hb39.h; try simp only [al_ete, al_dfn, Bool.not_eq_true', Bool.not_eq_false', al_ne, Bool.not_not, al_nn] at hb39p
                  refine W_exit ?_
                  refine inBlk_exit_ne (by decide) ?_
                  refine thn_exit ?_
                  refine inBlk_exit ?_
                  refine thn_normal ?_
                  refine W_seq ?_
                  refine W_region rfl ?_
                  refine WO_p (PS_move_int rfl) ?_
                  refine WO_p (PS_mul_u64w rfl rfl) ?_
                  refine WO_p (PS_move_int rfl) ?_
                  refine WO_p (PS_add_u64w rfl rfl) ?_
                  refine WO_p (PS_move_int rfl) ?_
                  refine WO_p (PS_mul_u64w rfl rfl) ?_
                  refine WO_p (PS_move_int rfl) ?_
                  refine WO_p (PS_add_u64w rfl rfl) ?_
                  refine WO_p (PS_move_int rfl) ?_
                  refine WO_p (PS_move_int rfl) ?_
                  refine WO_p (PS_mul_u64w rfl rfl) ?_
                  refine WO_p (PS_sub_u64w rfl rfl) ?_
                  refine WO_p (PS_move_int rfl) ?_
                  refine WO_p (PS_shr_u64 _ rfl rfl (by omega) rfl) ?_
                  refine WO_p (PS_assign_int rfl) ?_
                  refine WO_p (PS_assign_int rfl) ?_
                  refine WO_nil ?_
                  refine thn_normal ?_
                  refine W_ret ?_
                  refine bodyQ_ret2 Hvad.results281 rfl rfl (.int _ _) (.int _ _) rfl rfl ?_
                  first
                  | exact ⟨(by repeat (first | assumption | exact Ext.refl _ | refine Ext.alloc ?_ _ | refine Ext.drew ?_ | refine Ext.setB ?_ (by first | omega | (simp only [size_alloc, size_setB, size_drew]; omega)) _ | refine Ext.trans ?_ (by assumption))), _, _, rfl, quo_bd hl (by omega), ⟨Int.emod_nonneg _ (by omega), by have := Int.emod_lt_of_pos lo (show 0 < y by omega); omega⟩⟩
                  | exact ⟨hE3, _, _, rfl, by omega, shr_bd _ (by omega)⟩
                · have hb39p := hb39.h; try simp only [al_ete, al_dfn, Bool.not_eq_true', Bool.not_eq_false', al_ne, Bool.not_not, al_nn] at hb39p
                  refine W_skip ?_
                  refine inBlk_normal ?_
                  refine thn_normal ?_
                  exact ⟨m2 - 1, by omega, _, _, q1, U2, hq1, hU2, by omega, ⟨by omega, by omega⟩, by omega, ⟨rfl, rfl, rfl, rfl, rfl, rfl, rfl, rfl, rfl, trivial⟩, hE3⟩
              · have hb37p := hb37.h; try simp only [al_ete, al_dfn, Bool.not_eq_true', Bool.not_eq_false', al_ne, Bool.not_not, al_nn] at hb37p
                refine W_exit ?_
                refine thn_exit ?_
                refine thn_exit ?_
                refine inBlk_exit ?_
                refine thn_normal ?_
                refine W_seq ?_
                refine W_region rfl ?_
                refine WO_p (PS_move_int rfl) ?_
                refine WO_p (PS_mul_u64w rfl rfl) ?_
                refine WO_p (PS_move_int rfl) ?_
                refine WO_p (PS_add_u64w rfl rfl) ?_
                refine WO_p (PS_move_int rfl) ?_
                refine WO_p (PS_mul_u64w rfl rfl) ?_
                refine WO_p (PS_move_int rfl) ?_
                refine WO_p (PS_add_u64w rfl rfl) ?_
                refine WO_p (PS_move_int rfl) ?_
                refine WO_p (PS_move_int rfl) ?_
                refine WO_p (PS_mul_u64w rfl rfl) ?_
                refine WO_p (PS_sub_u64w rfl rfl) ?_
                refine WO_p (PS_move_int rfl) ?_
                refine WO_p (PS_shr_u64 _ rfl rfl (by omega) rfl) ?_
                refine WO_p (PS_assign_int rfl) ?_
                refine WO_p (PS_assign_int rfl) ?_
                refine WO_nil ?_
                refine thn_normal ?_
                refine W_ret ?_
                refine bodyQ_ret2 Hvad.results281 rfl rfl (.int _ _) (.int _ _) rfl rfl ?_
                first
                | exact ⟨(by repeat (first | assumption | exact Ext.refl _ | refine Ext.alloc ?_ _ | refine Ext.drew ?_ | refine Ext.setB ?_ (by first | omega | (simp only [size_alloc, size_setB, size_drew]; omega)) _ | refine Ext.trans ?_ (by assumption))), _, _, rfl, quo_bd hl (by omega), ⟨Int.emod_nonneg _ (by omega), by have := Int.emod_lt_of_pos lo (show 0 < y by omega); omega⟩⟩
                | exact ⟨hE3, _, _, rfl, by omega, shr_bd _ (by omega)⟩

set_option maxRecDepth 10000 in
theorem div64_spec (hi lo y : Int) (w : World) (hh : 0 ≤ hi ∧ hi ≤ 18446744073709551615) (hl : 0 ≤ lo ∧ lo ≤ 18446744073709551615) (hy : 0 ≤ y ∧ y ≤ 18446744073709551615) : Ret Hvad.prog 249 #[.int .u64 hi, .int .u64 lo, .int .u64 y] w fun u w' => Ext w w' ∧ ∃ (q r : Int) (ok : Bool), u = .tuple #[.int .u64 q, .int .u64 r, .bool ok] ∧ (0 ≤ q ∧ q ≤ 18446744073709551615) ∧ (0 ≤ r ∧ r ≤ 18446744073709551615) := by
  refine Ret_of_W Hvad.func249 rfl rfl ?_
  refine W_seq ?_
  refine W_region rfl ?_
  refine WO_p (PS_assign_int rfl) ?_
  refine WO_p (PS_assign_int rfl) ?_
  refine WO_p (PS_assign_bool rfl) ?_
  refine WO_nil ?_
  refine thn_normal ?_
  refine W_seq ?_
  refine W_seq ?_
  refine W_region rfl ?_
  refine WO_p (PS_move_int rfl) ?_
  refine WO_p (PS_eql rfl rfl) ?_
  refine WO_p (PS_move_bool rfl) ?_
  refine WO_if (t := 11) rfl (fun hb2 => ?_) (fun hb2 => ?_)
  · have hb2p := hb2.h; try simp only [al_ete, al_dfn, Bool.not_eq_true', Bool.not_eq_false', al_ne, Bool.not_not, al_nn] at hb2p
    refine WO_guardF rfl rfl hb2.h ?_
    refine WO_guardF rfl rfl hb2.h ?_
    refine WO_guardF rfl rfl hb2.h ?_
    refine WO_p (PS_pickT rfl hb2.h rfl) ?_
    refine WO_nil ?_
    refine thn_normal ?_
    refine W_condT rfl rfl ?_
    refine W_seq ?_
    refine W_region rfl ?_
    refine WO_p (PS_assign_int rfl) ?_
    refine WO_p (PS_assign_int rfl) ?_
    refine WO_p (PS_assign_bool rfl) ?_
    refine WO_nil ?_
    refine thn_normal ?_
    refine W_ret ?_
    refine thn_ret ?_
    refine bodyQ_ret3 Hvad.results249 rfl rfl rfl (.int _ _) (.int _ _) (.bool _) rfl rfl rfl ?_
    exact ⟨(by repeat (first | assumption | exact Ext.refl _ | refine Ext.alloc ?_ _ | refine Ext.drew ?_ | refine Ext.setB ?_ (by first | omega | (simp only [size_alloc, size_setB, size_drew]; omega)) _ | refine Ext.trans ?_ (by assumption))), _, _, _, rfl, by omega, by omega⟩
  · have hb2p := hb2.h; try simp only [al_ete, al_dfn, Bool.not_eq_true', Bool.not_eq_false', al_ne, Bool.not_not, al_nn] at hb2p
    refine WO_guardT rfl rfl hb2.h ?_
    refine WO_p (PS_move_int rfl) ?_
    refine WO_guardT rfl rfl hb2.h ?_
    refine WO_p (PS_move_int rfl) ?_
    refine WO_guardT rfl rfl hb2.h ?_
    refine WO_p (PS_geq rfl rfl) ?_
    refine WO_p (PS_pickF rfl hb2.h rfl) ?_
    refine WO_nil ?_
    refine thn_normal ?_
    refine W_if rfl (fun hb4 => ?_) (fun hb4 => ?_)
    · have hb4p := hb4.h; try simp only [al_ete, al_dfn, Bool.not_eq_true', Bool.not_eq_false', al_ne, Bool.not_not, al_nn] at hb4p
      refine W_seq ?_
      refine W_region rfl ?_
      refine WO_p (PS_assign_int rfl) ?_
      refine WO_p (PS_assign_int rfl) ?_
      refine WO_p (PS_assign_bool rfl) ?_
      refine WO_nil ?_
      refine thn_normal ?_
      refine W_ret ?_
      refine thn_ret ?_
      refine bodyQ_ret3 Hvad.results249 rfl rfl rfl (.int _ _) (.int _ _) (.bool _) rfl rfl rfl ?_
      exact ⟨(by repeat (first | assumption | exact Ext.refl _ | refine Ext.alloc ?_ _ | refine Ext.drew ?_ | refine Ext.setB ?_ (by first | omega | (simp only [size_alloc, size_setB, size_drew]; omega)) _ | refine Ext.trans ?_ (by assumption))), _, _, _, rfl, by omega, by omega⟩
    · have hb4p := hb4.h; try simp only [al_ete, al_dfn, Bool.not_eq_true', Bool.not_eq_false', al_ne, Bool.not_not, al_nn] at hb4p
      refine W_skip ?_
      refine thn_normal ?_
      refine W_seq ?_
      refine W_region rfl ?_
      refine WO_p (PS_move_int rfl) ?_
      refine WO_p (PS_move_int rfl) ?_
      refine WO_p (PS_move_int rfl) ?_
      refine WO_call Hvad.call281 (by rfl) (Ret.mono (div64b_spec _ _ _ _ (by omega) (by omega) (by omega) (by omega) (by omega)) ?_)
      rintro _ w281_4 ⟨hE281_4, q281_4, r281_4, rfl, hq281_4, hr281_4⟩
      refine WO_p (PS_move_tuple rfl) ?_
      refine WO_p (PS_extract_int rfl rfl) ?_
      refine WO_p (PS_extract_int rfl rfl) ?_
      refine WO_p (PS_assign_int rfl) ?_
      refine WO_p (PS_assign_int rfl) ?_
      refine WO_nil ?_
      refine thn_normal ?_
      refine W_seq ?_
      refine W_region rfl ?_
      refine WO_p (PS_move_int rfl) ?_
      refine WO_p (PS_move_int rfl) ?_
      refine WO_p (PS_assign_int rfl) ?_
      refine WO_p (PS_assign_int rfl) ?_
      refine WO_p (PS_assign_bool rfl) ?_
      refine WO_nil ?_
      refine thn_normal ?_
      refine W_ret ?_
      refine bodyQ_ret3 Hvad.results249 rfl rfl rfl (.int _ _) (.int _ _) (.bool _) rfl rfl rfl ?_
      exact ⟨(by repeat (first | assumption | exact Ext.refl _ | refine Ext.alloc ?_ _ | refine Ext.drew ?_ | refine Ext.setB ?_ (by first | omega | (simp only [size_alloc, size_setB, size_drew]; omega)) _ | refine Ext.trans ?_ (by assumption))), _, _, _, rfl, by omega, by omega⟩

set_option maxRecDepth 10000 in
theorem mulAdd_spec (x y s c : Int) (w : World) (hx : 0 ≤ x ∧ x ≤ 18446744073709551615) (hy : 0 ≤ y ∧ y ≤ 18446744073709551615) (hs : 0 ≤ s ∧ s ≤ 18446744073709551615) (hc : 0 ≤ c ∧ c ≤ 18446744073709551615) : Ret Hvad.prog 279 #[.int .u64 x, .int .u64 y, .int .u64 s, .int .u64 c] w fun u w' => Ext w w' ∧ ∃ lo hi : Int, u = .tuple #[.int .u64 lo, .int .u64 hi] ∧ (0 ≤ lo ∧ lo ≤ 18446744073709551615) ∧ (0 ≤ hi ∧ hi ≤ 18446744073709551615) := by
  refine Ret_of_W Hvad.func279 rfl rfl ?_
  refine W_seq ?_
  refine W_region rfl ?_
  refine WO_p (PS_assign_int rfl) ?_
  refine WO_p (PS_assign_int rfl) ?_
  refine WO_nil ?_
  refine thn_normal ?_
  refine W_seq ?_
  refine W_region rfl ?_
  refine WO_p (PS_move_int rfl) ?_
  refine WO_p (PS_move_int rfl) ?_
  refine WO_call Hvad.call71 (by rfl) (Ret.mono (mul64_ex _ _ _ (by omega) (by omega)) ?_)
  rintro _ _ ⟨h71_0, l71_0, rfl, hm71_0, hh71_0, hl71_0, rfl⟩
  refine WO_p (PS_move_tuple rfl) ?_
  refine WO_p (PS_extract_int rfl rfl) ?_
  refine WO_p (PS_extract_int rfl rfl) ?_
  refine WO_p (PS_assign_int rfl) ?_
  refine WO_p (PS_assign_int rfl) ?_
  refine WO_nil ?_
  refine thn_normal ?_
  refine W_seq ?_
  refine W_region rfl ?_
  refine WO_p (PS_move_int rfl) ?_
  refine WO_p (PS_move_int rfl) ?_
  refine WO_call Hvad.call72 (by rfl) (Ret.mono (add64_ex _ _ _ _ (by omega) (by omega) (by omega)) ?_)
  rintro _ _ ⟨s72_1, k72_1, rfl, hs72_1, hr72_1, hk72_1, rfl⟩
  refine WO_p (PS_move_tuple rfl) ?_
  refine WO_p (PS_extract_int rfl rfl) ?_
  refine WO_p (PS_extract_int rfl rfl) ?_
  refine WO_p (PS_assign_int rfl) ?_
  refine WO_p (PS_assign_int rfl) ?_
  refine WO_nil ?_
  refine thn_normal ?_
  refine W_seq ?_
  refine W_region rfl ?_
  refine WO_p (PS_move_int rfl) ?_
  refine WO_p (PS_move_int rfl) ?_
  refine WO_p (PS_add_u64w rfl rfl) ?_
  refine WO_p (PS_assign_int rfl) ?_
  refine WO_nil ?_
  refine thn_normal ?_
  refine W_seq ?_
  refine W_region rfl ?_
  refine WO_p (PS_move_int rfl) ?_
  refine WO_p (PS_move_int rfl) ?_
  refine WO_call Hvad.call72 (by rfl) (Ret.mono (add64_ex _ _ _ _ (by omega) (by omega) (by omega)) ?_)
  rintro _ _ ⟨s72_2, k72_2, rfl, hs72_2, hr72_2, hk72_2, rfl⟩
  refine WO_p (PS_move_tuple rfl) ?_
  refine WO_p (PS_extract_int rfl rfl) ?_
  refine WO_p (PS_extract_int rfl rfl) ?_
  refine WO_p (PS_assign_int rfl) ?_
  refine WO_p (PS_assign_int rfl) ?_
  refine WO_nil ?_
  refine thn_normal ?_
  refine W_seq ?_
  refine W_region rfl ?_
  refine WO_p (PS_move_int rfl) ?_
  refine WO_p (PS_move_int rfl) ?_
  refine WO_p (PS_move_int rfl) ?_
  refine WO_p (PS_add_u64w rfl rfl) ?_
  refine WO_p (PS_assign_int rfl) ?_
  refine WO_p (PS_assign_int rfl) ?_
  refine WO_nil ?_
  refine thn_normal ?_
  refine W_ret ?_
  refine bodyQ_ret2 Hvad.results279 rfl rfl (.int _ _) (.int _ _) rfl rfl ?_
  exact ⟨(by repeat (first | assumption | exact Ext.refl _ | refine Ext.alloc ?_ _ | refine Ext.drew ?_ | refine Ext.setB ?_ (by first | omega | (simp only [size_alloc, size_setB, size_drew]; omega)) _ | refine Ext.trans ?_ (by assumption))), _, _, rfl, by omega, by omega⟩

end Go.Proofs.YgvadwGreat
