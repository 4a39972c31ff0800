import Derived.Test.YgvacwGreatJa
import Derived.Test.YgvacwGreatUj
namespace Go.Proofs.YgvacwGreat
set_option linter.unusedSimpArgs false
set_option linter.unusedVariables false
theorem un21 {U v Y q : Int} (hY : Y ≤ 18446744073709551615) (hok : q * Y ≤ U * 4294967296 + v) (hhi : U * 4294967296 + v < (q + 1) * Y) : ∃ U2, ((U * 4294967296 % 18446744073709551616 + v) % 18446744073709551616 - q * Y % 18446744073709551616) % 18446744073709551616 = U2 ∧ q * Y + U2 = U * 4294967296 + v ∧ 0 ≤ U2 ∧ U2 < Y := by
  rw [Int.add_mul, Int.one_mul] at hhi
  refine ⟨U * 4294967296 + v - q * Y, ?_, by omega, by omega, by omega⟩
  generalize q * Y = z at *
  omega
theorem div_fin {hi lo y Y U V q1 q0 U2 R P : Int} (hP : 0 < P) (hY : Y = y * P) (hUV : U * 18446744073709551616 + V = (hi * 18446744073709551616 + lo) * P) (h1 : q1 * Y + U2 = U * 4294967296 + V / 2 ^ 32) (h2 : q0 * Y + R = U2 * 4294967296 + V % 4294967296) (hR : 0 ≤ R ∧ R < Y) : (q1 * 4294967296 + q0) * y + R / P = hi * 18446744073709551616 + lo ∧ 0 ≤ R / P ∧ R / P < y := by
  have e : R = P * (hi * 18446744073709551616 + lo - (q1 * 4294967296 + q0) * y) := by
    have e1 : (q1 * 4294967296 + q0) * Y + R = U * 18446744073709551616 + V := by
      rw [Int.add_mul, Int.mul_assoc q1, Int.mul_comm 4294967296 Y, ← Int.mul_assoc]
      generalize q1 * Y = a at *
      generalize q0 * Y = b at *
      omega
    rw [Int.mul_sub, Int.mul_comm P (hi * 18446744073709551616 + lo), ← hUV, Int.mul_comm P, Int.mul_assoc, ← hY]
    omega
  have e2 : R / P = hi * 18446744073709551616 + lo - (q1 * 4294967296 + q0) * y := by rw [e, Int.mul_ediv_cancel_left _ (Int.ne_of_gt hP)]
  refine ⟨by omega, Int.ediv_nonneg hR.1 (Int.le_of_lt hP), ?_⟩
  refine Int.ediv_lt_of_lt_mul hP ?_
  rw [← hY]; exact hR.2
theorem Ln.pos {y : Int} {n : Nat} (h : Ln y n) (h0 : 0 < y) : 1 ≤ n := by
  rcases Nat.lt_or_ge 0 n with h1 | h1
  · exact h1
  · have : n = 0 := by omega
    subst this; have := h.1; omega
/-- the dividend shifted up -/
theorem div_norm {hi lo y : Int} {n : Nat} (hn : n ≤ 64) (hL : Ln y n) (hh : 0 ≤ hi) (hlt : hi < y) (hl : 0 ≤ lo ∧ lo ≤ 18446744073709551615) : bOr (hi * 2 ^ (64 - n) % 18446744073709551616) (lo / 2 ^ n) * 18446744073709551616 + lo * 2 ^ (64 - n) % 18446744073709551616 = (hi * 18446744073709551616 + lo) * 2 ^ (64 - n) ∧ bOr (hi * 2 ^ (64 - n) % 18446744073709551616) (lo / 2 ^ n) < y * 2 ^ (64 - n) := by
  have hn2 : 64 - (64 - n) = n := by omega
  have hd := div_pow_bd (y := lo) (r := 64 - n) (by omega) hl
  rw [hn2] at hd
  have hu := or_up (x := hi) (y := lo / 2 ^ n) (r := 64 - n) (by omega) hd
  rw [hn2] at hu
  have hh2 : hi % 2 ^ n = hi := Int.emod_eq_of_lt hh (by have := hL.1; omega)
  rw [hh2] at hu
  have hp := shl_parts (x := lo) (r := 64 - n) (by omega)
  rw [hn2] at hp
  have hm := shl_mod (x := lo) (r := 64 - n) (by omega)
  rw [hn2] at hm
  rw [hu, hm]
  refine ⟨?_, ?_⟩
  · rw [Int.add_mul _ lo, hp, Int.add_mul, Int.mul_assoc hi, Int.mul_assoc hi, Int.mul_comm (2 ^ (64 - n))]
    omega
  · have : (hi + 1) * 2 ^ (64 - n) ≤ y * 2 ^ (64 - n) := Int.mul_le_mul_of_nonneg_right hlt (Int.le_of_lt (pow2_pos _))
    rw [Int.add_mul, Int.one_mul] at this
    omega
theorem y_split (Y : Int) : Y / 2 ^ 32 * 4294967296 + Y % 4294967296 = Y := by omega

set_option maxRecDepth 10000 in
set_option maxHeartbeats 2000000 in
theorem div64b_ex (hi lo y : Int) (w : World) (hh : 0 ≤ hi ∧ hi ≤ 18446744073709551615) (hl : 0 ≤ lo ∧ lo ≤ 18446744073709551615) (hy : 0 ≤ y ∧ y ≤ 18446744073709551615) (hy0 : y ≠ 0) (hlt : hi < y) : Ret Hvac.prog 370 #[.int .u64 hi, .int .u64 lo, .int .u64 y] w fun u w' => Ext w w' ∧ ∃ q r : Int, u = .tuple #[.int .u64 q, .int .u64 r] ∧ (0 ≤ q ∧ q ≤ 18446744073709551615) ∧ (0 ≤ r ∧ r < y) ∧ q * y + r = hi * 18446744073709551616 + lo := by
  refine Ret_of_W Hvac.func370 rfl rfl ?_
  refine W_seq ?_
  refine W_region rfl ?_
  refine WO_p (PS_assign_int rfl) ?_
  refine WO_p (PS_assign_int rfl) ?_
  refine WO_nil ?_
  refine thn_normal ?_
  refine W_seq ?_
  refine W_seq ?_
  refine W_region rfl ?_
  refine WO_p (PS_move_int rfl) ?_
  refine WO_p (PS_eql rfl rfl) ?_
  refine WO_nil ?_
  refine thn_normal ?_
  refine W_if rfl (fun hb2 => ?_) (fun hb2 => ?_)
  · have hb2p := hb2.h; try simp only [al_ete, al_dfn, Bool.not_eq_true', Bool.not_eq_false', al_ne, Bool.not_not, al_nn] at hb2p
    exfalso; omega --END
  · have hb2p := hb2.h; try simp only [al_ete, al_dfn, Bool.not_eq_true', Bool.not_eq_false', al_ne, Bool.not_not, al_nn] at hb2p
    refine W_skip ?_
    refine thn_normal ?_
    refine W_seq ?_
    refine W_seq ?_
    refine W_region rfl ?_
    refine WO_p (PS_move_int rfl) ?_
    refine WO_p (PS_move_int rfl) ?_
    refine WO_p (PS_leq rfl rfl) ?_
    refine WO_nil ?_
    refine thn_normal ?_
    refine W_if rfl (fun hb4 => ?_) (fun hb4 => ?_)
    · have hb4p := hb4.h; try simp only [al_ete, al_dfn, Bool.not_eq_true', Bool.not_eq_false', al_ne, Bool.not_not, al_nn] at hb4p
      exfalso; omega --END
    · have hb4p := hb4.h; try simp only [al_ete, al_dfn, Bool.not_eq_true', Bool.not_eq_false', al_ne, Bool.not_not, al_nn] at hb4p
      refine W_skip ?_
      refine thn_normal ?_
      refine W_seq ?_
      refine W_seq ?_
      refine W_region rfl ?_
      refine WO_p (PS_move_int rfl) ?_
      refine WO_p (PS_eql rfl rfl) ?_
      refine WO_nil ?_
      refine thn_normal ?_
      refine W_if rfl (fun hb6 => ?_) (fun hb6 => ?_)
      · have hb6p := hb6.h; try simp only [al_ete, al_dfn, Bool.not_eq_true', Bool.not_eq_false', al_ne, Bool.not_not, al_nn] at hb6p
        have hhi0 := hb6p
        refine W_seq ?_
        refine W_drawE [false, false, false, false, false, false, false, false] hmix (by kernel_rfl) rfl ?_
        refine WH_p (PS_move_int rfl) rfl ?_
        refine WH_p (PS_move_int rfl) rfl ?_
        refine WH_p (PS_quo_u64 rfl rfl (by omega) (by omega) (by omega)) rfl ?_
        refine WH_p (PS_move_int rfl) rfl ?_
        refine WH_p (PS_move_int rfl) rfl ?_
        refine WH_p (PS_rem_u64 rfl rfl (by omega) (by omega)) rfl ?_
        refine WH_p (PS_assign_int rfl) rfl ?_
        refine WH_p (PS_assign_int rfl) rfl ?_
        refine WH_nil ?_
        refine thn_normal ?_
        refine W_ret ?_
        refine thn_ret ?_
        refine bodyQ_ret2 Hvac.results370 rfl rfl (.int _ _) (.int _ _) rfl rfl ?_
        first
        | (have hm := Int.mul_ediv_add_emod lo y
           have hm2 := Int.emod_nonneg lo (show y ≠ 0 by omega)
           have hm3 := Int.emod_lt_of_pos lo (show 0 < y by omega)
           exact ⟨(by repeat (first | assumption | exact Ext.refl _ | refine Ext.alloc ?_ _ | refine Ext.drew ?_ | refine Ext.setB ?_ (by first | omega | (simp only [size_alloc, size_setB, size_drew]; omega)) _ | refine Ext.trans ?_ (by assumption))), _, _, rfl, quo_bd hl (by omega), ⟨hm2, hm3⟩, by rw [Int.mul_comm, hm]; omega⟩)
        | (have hfin := div_fin (pow2_pos (64 - n)) hYe hUV.1 hU2.1 hR hRb
           have hqb : ∀ Q : Int, Q * y + R / 2 ^ (64 - n) = hi * 18446744073709551616 + lo → 0 ≤ Q → 0 ≤ Q ∧ Q ≤ 18446744073709551615 := by
             intro Q hQ hQ0
             refine ⟨hQ0, ?_⟩
             rcases Int.lt_or_le 18446744073709551615 Q with h | h
             · have h5 : 18446744073709551616 * y ≤ Q * y := Int.mul_le_mul_of_nonneg_right h hy.1
               omega
             · exact h
           have hqb2 := hqb _ hfin.1 (by omega)
           refine ⟨hE3, _, _, rfl, by omega, hfin.2, ?_⟩
           rw [← hfin.1]
           congr 2
           omega)
      · have hb6p := hb6.h; try simp only [al_ete, al_dfn, Bool.not_eq_true', Bool.not_eq_false', al_ne, Bool.not_not, al_nn] at hb6p
        refine W_skip ?_
        refine thn_normal ?_
        refine W_seq ?_
        refine W_region rfl ?_
        refine WO_p (PS_move_int rfl) ?_
        refine WO_call Hvac.call375 (by rfl) (Ret.mono (lz64b_spec y _ hy) ?_)
        rintro _ w9 ⟨hw9, n, rfl, hn, hL⟩
        obtain rfl := hw9.symm
        have hN := hL.norm (by omega) hn
        have hUV := div_norm hn hL hh.1 hlt hl
        refine WO_p (PS_conv_u64n Hvac.runUnderlying3 Hvac.runUnderlying177 rfl (by omega) (by omega)) ?_
        refine WO_p (PS_assign_int rfl) ?_
        refine WO_nil ?_
        refine thn_normal ?_
        refine W_seq ?_
        refine W_region rfl ?_
        refine WO_p (PS_move_int rfl) ?_
        refine WO_p (PS_move_int rfl) ?_
        refine WO_p (PS_shl_u64 (64 - n) rfl rfl (by omega) (by omega)) ?_
        rw [hN.1]
        obtain ⟨Y, hYe⟩ : ∃ Y, Y = y * 2 ^ (64 - n) := ⟨_, rfl⟩
        rw [← hYe] at hN hUV ⊢
        refine WO_p (PS_assign_int rfl) ?_
        refine WO_nil ?_
        refine thn_normal ?_
        refine W_seq ?_
        refine W_region rfl ?_
        refine WO_p (PS_move_int rfl) ?_
        refine WO_p (PS_shr_u64 32 rfl rfl (by decide) rfl) ?_
        refine WO_p (PS_assign_int rfl) ?_
        refine WO_nil ?_
        refine thn_normal ?_
        refine W_seq ?_
        refine W_region rfl ?_
        refine WO_p (PS_move_int rfl) ?_
        refine WO_p (PS_and_u64 rfl rfl) ?_
        rw [bAnd_mask32 (by omega) (by omega)]
        refine WO_p (PS_assign_int rfl) ?_
        refine WO_nil ?_
        refine thn_normal ?_
        refine W_seq ?_
        refine W_region rfl ?_
        refine WO_p (PS_move_int rfl) ?_
        refine WO_p (PS_move_int rfl) ?_
        refine WO_p (PS_shl_u64 (64 - n) rfl rfl (by omega) (by omega)) ?_
        refine WO_p (PS_move_int rfl) ?_
        refine WO_p (PS_move_int rfl) ?_
        refine WO_p (PS_sub_u64n rfl rfl (by omega) (by omega)) ?_
        refine WO_p (PS_shr_u64 n rfl rfl (by omega) (by omega)) ?_
        refine WO_p (PS_or_u64 rfl rfl) ?_
        obtain ⟨U, hUe⟩ : ∃ U, U = bOr (hi * 2 ^ (64 - n) % 18446744073709551616) (lo / 2 ^ n) := ⟨_, rfl⟩
        have hU : 0 ≤ U ∧ U ≤ 18446744073709551615 := by rw [hUe]; exact bOr_bd _ _
        rw [← hUe] at hUV ⊢
        clear hUe
        refine WO_p (PS_assign_int rfl) ?_
        refine WO_nil ?_
        refine thn_normal ?_
        refine W_seq ?_
        refine W_region rfl ?_
        refine WO_p (PS_move_int rfl) ?_
        refine WO_p (PS_move_int rfl) ?_
        refine WO_p (PS_shl_u64 (64 - n) rfl rfl (by omega) (by omega)) ?_
        obtain ⟨V, hVe⟩ : ∃ V, V = lo * 2 ^ (64 - n) % 18446744073709551616 := ⟨_, rfl⟩
        have hV : 0 ≤ V ∧ V ≤ 18446744073709551615 := by rw [hVe]; omega
        rw [← hVe] at hUV ⊢
        clear hVe
        refine WO_p (PS_assign_int rfl) ?_
        refine WO_nil ?_
        refine thn_normal ?_
        refine W_seq ?_
        refine W_region rfl ?_
        refine WO_p (PS_move_int rfl) ?_
        refine WO_p (PS_shr_u64 32 rfl rfl (by decide) rfl) ?_
        refine WO_p (PS_assign_int rfl) ?_
        refine WO_nil ?_
        refine thn_normal ?_
        refine W_seq ?_
        refine W_region rfl ?_
        refine WO_p (PS_move_int rfl) ?_
        refine WO_p (PS_and_u64 rfl rfl) ?_
        rw [bAnd_mask32 (by omega) (by omega)]
        refine WO_p (PS_assign_int rfl) ?_
        refine WO_nil ?_
        refine thn_normal ?_
        refine W_seq ?_
        refine W_region rfl ?_
        refine WO_p (PS_move_int rfl) ?_
        refine WO_p (PS_move_int rfl) ?_
        refine WO_p (PS_quo_u64 rfl rfl (by omega) (by omega) (by omega)) ?_
        refine WO_p (PS_assign_int rfl) ?_
        refine WO_nil ?_
        refine thn_normal ?_
        refine W_seq ?_
        refine W_region rfl ?_
        refine WO_p (PS_move_int rfl) ?_
        refine WO_p (PS_move_int rfl) ?_
        refine WO_p (PS_move_int rfl) ?_
        refine WO_p (PS_mul_u64w rfl rfl) ?_
        refine WO_p (PS_sub_u64w rfl rfl) ?_
        rw [rem_wrap hU (by omega)]
        refine WO_p (PS_assign_int rfl) ?_
        refine WO_nil ?_
        refine thn_normal ?_
        refine W_seq ?_
        refine W_block ?_
        refine W_loopN (fun m ρ w' => ∃ q r : Int, (0 ≤ q ∧ q ≤ 4294967297) ∧ (0 ≤ r ∧ r < 4294967296) ∧ 4294967296 - r ≤ m ∧ q * (Y / 2 ^ 32) + r = U ∧ U * 4294967296 + V / 2 ^ 32 < (q + 1) * Y ∧ Fr [(2, .int .u64 Y), (8, .int .u64 (64 - n)), (9, .int .u64 (Y / 2 ^ 32)), (10, .int .u64 (Y % 4294967296)), (14, .int .u64 (V % 4294967296)), (16, .int .u64 r), (11, .int .u64 U), (13, .int .u64 (V / 2 ^ 32)), (15, .int .u64 q)] ρ ∧ Ext w w') 4294967296 ?_ ?_
        · have hq := tri_top (h := U) (y1 := Y / 2 ^ 32) (y0 := Y % 4294967296) (b := 4294967296) (by omega) (by omega) (by omega) (by omega) (by omega)
          have hq0 : 0 ≤ U / (Y / 2 ^ 32) := Int.ediv_nonneg (by omega) (by omega)
          have hr0 := Int.emod_nonneg U (b := Y / 2 ^ 32) (by omega)
          have hr1 := Int.emod_lt_of_pos U (b := Y / 2 ^ 32) (by omega)
          have hi0 := tri_init (h := U) (y1 := Y / 2 ^ 32) (y0 := Y % 4294967296) (b := 4294967296) (l := V / 2 ^ 32) (by omega) (by omega) (by omega) (by omega) (by omega)
          rw [y_split] at hi0
          exact ⟨_, _, ⟨hq0, hq⟩, ⟨hr0, by omega⟩, by omega, by rw [Int.mul_comm]; exact Int.mul_ediv_add_emod _ _, hi0, ⟨rfl, rfl, rfl, rfl, rfl, rfl, rfl, rfl, rfl, trivial⟩, Ext.refl _⟩
        intro m ρ w2 hI
        obtain ⟨q, r, hq, hr, hm, he, hT, hF, hE2⟩ := hI
        refine W_env _ hF ?_
        refine W_seq ?_
        refine W_seq ?_
        refine W_region rfl ?_
        refine WO_p (PS_move_int rfl) ?_
        refine WO_p (PS_geq rfl rfl) ?_
        refine WO_p (PS_move_bool rfl) ?_
        refine WO_if (t := 69) rfl (fun hb9 => ?_) (fun hb9 => ?_)
        · have hb9p := hb9.h; try simp only [al_ete, al_dfn, Bool.not_eq_true', Bool.not_eq_false', al_ne, Bool.not_not, al_nn] at hb9p
          have hge := hb9p
          have hdec : U * 4294967296 + V / 2 ^ 32 < (q - 1 + 1) * Y := tri_decB (by omega) hge (tri_T (by omega) (by omega) (by omega))
          have hq1_ : 1 ≤ q := by omega
          refine WO_guardF rfl rfl hb9.h ?_
          refine WO_guardF rfl rfl hb9.h ?_
          refine WO_guardF rfl rfl hb9.h ?_
          refine WO_guardF rfl rfl hb9.h ?_
          refine WO_guardF rfl rfl hb9.h ?_
          refine WO_guardF rfl rfl hb9.h ?_
          refine WO_guardF rfl rfl hb9.h ?_
          refine WO_guardF rfl rfl hb9.h ?_
          refine WO_p (PS_pickT rfl hb9.h rfl) ?_
          refine WO_nil ?_
          refine thn_normal ?_
          refine W_condT rfl rfl ?_
          refine W_skip ?_
          refine thn_normal ?_
          refine W_block ?_
          refine W_seq ?_
          refine W_region rfl ?_
          refine WO_p (PS_move_int rfl) ?_
          refine WO_p (PS_sub_u64w rfl rfl) ?_
          rw [show (q - 1) % 18446744073709551616 = q - 1 by omega]
          refine WO_p (PS_assign_int rfl) ?_
          refine WO_nil ?_
          refine thn_normal ?_
          refine W_seq ?_
          refine W_region rfl ?_
          refine WO_p (PS_move_int rfl) ?_
          refine WO_p (PS_move_int rfl) ?_
          refine WO_p (PS_add_u64n rfl rfl (by omega) (by omega)) ?_
          refine WO_p (PS_assign_int rfl) ?_
          refine WO_nil ?_
          refine thn_normal ?_
          refine W_seq ?_
          refine W_region rfl ?_
          refine WO_p (PS_move_int rfl) ?_
          refine WO_p (PS_geq rfl rfl) ?_
          refine WO_nil ?_
          refine thn_normal ?_
          refine W_if rfl (fun hb11 => ?_) (fun hb11 => ?_)
          · have hb11p := hb11.h; try simp only [al_ete, al_dfn, Bool.not_eq_true', Bool.not_eq_false', al_ne, Bool.not_not, al_nn] at hb11p
            have hok := tri_big (y0 := Y % 4294967296) (b := 4294967296) (l := V / 2 ^ 32) (tri_next he) (by omega) (by omega) (by omega) (by omega) (by omega) (by omega)
            rw [y_split] at hok
            have hhi := hdec
            refine W_exit ?_
            refine inBlk_exit_ne (by decide) ?_
            refine thn_exit ?_
            refine inBlk_exit ?_
            refine thn_normal ?_
            refine W_seq ?_
            refine W_region rfl ?_
            refine WO_p (PS_move_int rfl) ?_
            refine WO_p (PS_mul_u64w rfl rfl) ?_
            refine WO_p (PS_move_int rfl) ?_
            refine WO_p (PS_add_u64w rfl rfl) ?_
            refine WO_p (PS_move_int rfl) ?_
            refine WO_p (PS_move_int rfl) ?_
            refine WO_p (PS_mul_u64w rfl rfl) ?_
            refine WO_p (PS_sub_u64w rfl rfl) ?_
            obtain ⟨U2, hU2e, hU2, hU2b⟩ := un21 (by omega) hok hhi
            rw [hU2e]
            clear hU2e
            refine WO_p (PS_assign_int rfl) ?_
            refine WO_nil ?_
            refine thn_normal ?_
            refine W_seq ?_
            refine W_region rfl ?_
            refine WO_p (PS_move_int rfl) ?_
            refine WO_p (PS_move_int rfl) ?_
            refine WO_p (PS_quo_u64 rfl rfl (by omega) (by omega) (by omega)) ?_
            refine WO_p (PS_assign_int rfl) ?_
            refine WO_nil ?_
            refine thn_normal ?_
            refine W_seq ?_
            refine W_region rfl ?_
            refine WO_p (PS_move_int rfl) ?_
            refine WO_p (PS_move_int rfl) ?_
            refine WO_p (PS_move_int rfl) ?_
            refine WO_p (PS_mul_u64w rfl rfl) ?_
            refine WO_p (PS_sub_u64w rfl rfl) ?_
            rw [rem_wrap ⟨by omega, by omega⟩ (by omega)]
            refine WO_p (PS_assign_int rfl) ?_
            refine WO_nil ?_
            refine thn_normal ?_
            refine W_seq ?_
            refine W_block ?_
            refine W_loopN (fun m ρ w' => ∃ q r q1 U2 : Int, (0 ≤ q1 ∧ q1 ≤ 4294967297) ∧ (q1 * Y + U2 = U * 4294967296 + V / 2 ^ 32 ∧ 0 ≤ U2 ∧ U2 < Y) ∧ (0 ≤ q ∧ q ≤ 4294967297) ∧ (0 ≤ r ∧ r < 4294967296) ∧ 4294967296 - r ≤ m ∧ q * (Y / 2 ^ 32) + r = U2 ∧ U2 * 4294967296 + V % 4294967296 < (q + 1) * Y ∧ Fr [(2, .int .u64 Y), (8, .int .u64 (64 - n)), (9, .int .u64 (Y / 2 ^ 32)), (10, .int .u64 (Y % 4294967296)), (14, .int .u64 (V % 4294967296)), (16, .int .u64 r), (15, .int .u64 q1), (17, .int .u64 U2), (18, .int .u64 q)] ρ ∧ Ext w w') 4294967296 ?_ ?_
            · have hq := tri_top (h := U2) (y1 := Y / 2 ^ 32) (y0 := Y % 4294967296) (b := 4294967296) (by omega) (by omega) (by omega) (by omega) (by omega)
              have hq0 : 0 ≤ U2 / (Y / 2 ^ 32) := Int.ediv_nonneg (by omega) (by omega)
              have hr0 := Int.emod_nonneg U2 (b := Y / 2 ^ 32) (by omega)
              have hr1 := Int.emod_lt_of_pos U2 (b := Y / 2 ^ 32) (by omega)
              have hi0 := tri_init (h := U2) (y1 := Y / 2 ^ 32) (y0 := Y % 4294967296) (b := 4294967296) (l := V % 4294967296) (by omega) (by omega) (by omega) (by omega) (by omega)
              rw [y_split] at hi0
              exact ⟨_, _, _, U2, (by omega), ⟨hU2, hU2b⟩, ⟨hq0, hq⟩, ⟨hr0, by omega⟩, by omega, by rw [Int.mul_comm]; exact Int.mul_ediv_add_emod _ _, hi0, ⟨rfl, rfl, rfl, rfl, rfl, rfl, rfl, rfl, rfl, trivial⟩, hE2⟩
            intro m2 ρ2 w3 hI
            clear hU2 hU2b hok hhi
            obtain ⟨q2, r2, q1, U3, hq1, hU2, hq2, hr2, hm2, he2, hT2, hF2, hE3⟩ := hI
            refine W_env _ hF2 ?_
            refine W_seq ?_
            refine W_seq ?_
            refine W_region rfl ?_
            refine WO_p (PS_move_int rfl) ?_
            refine WO_p (PS_geq rfl rfl) ?_
            refine WO_p (PS_move_bool rfl) ?_
            refine WO_if (t := 104) rfl (fun hb13 => ?_) (fun hb13 => ?_)
            · have hb13p := hb13.h; try simp only [al_ete, al_dfn, Bool.not_eq_true', Bool.not_eq_false', al_ne, Bool.not_not, al_nn] at hb13p
              have hge := hb13p
              have hdec2 : U3 * 4294967296 + V % 4294967296 < (q2 - 1 + 1) * Y := tri_decB (by omega) hge (tri_T (by omega) (by omega) (by omega))
              have hq1_ : 1 ≤ q2 := by omega
              refine WO_guardF rfl rfl hb13.h ?_
              refine WO_guardF rfl rfl hb13.h ?_
              refine WO_guardF rfl rfl hb13.h ?_
              refine WO_guardF rfl rfl hb13.h ?_
              refine WO_guardF rfl rfl hb13.h ?_
              refine WO_guardF rfl rfl hb13.h ?_
              refine WO_guardF rfl rfl hb13.h ?_
              refine WO_guardF rfl rfl hb13.h ?_
              refine WO_p (PS_pickT rfl hb13.h rfl) ?_
              refine WO_nil ?_
              refine thn_normal ?_
              refine W_condT rfl rfl ?_
              refine W_skip ?_
              refine thn_normal ?_
              refine W_block ?_
              refine W_seq ?_
              refine W_region rfl ?_
              refine WO_p (PS_move_int rfl) ?_
              refine WO_p (PS_sub_u64w rfl rfl) ?_
              rw [show (q2 - 1) % 18446744073709551616 = q2 - 1 by omega]
              refine WO_p (PS_assign_int rfl) ?_
              refine WO_nil ?_
              refine thn_normal ?_
              refine W_seq ?_
              refine W_region rfl ?_
              refine WO_p (PS_move_int rfl) ?_
              refine WO_p (PS_move_int rfl) ?_
              refine WO_p (PS_add_u64n rfl rfl (by omega) (by omega)) ?_
              refine WO_p (PS_assign_int rfl) ?_
              refine WO_nil ?_
              refine thn_normal ?_
              refine W_seq ?_
              refine W_region rfl ?_
              refine WO_p (PS_move_int rfl) ?_
              refine WO_p (PS_geq rfl rfl) ?_
              refine WO_nil ?_
              refine thn_normal ?_
              refine W_if rfl (fun hb15 => ?_) (fun hb15 => ?_)
              · have hb15p := hb15.h; try simp only [al_ete, al_dfn, Bool.not_eq_true', Bool.not_eq_false', al_ne, Bool.not_not, al_nn] at hb15p
                have hok := tri_big (y0 := Y % 4294967296) (b := 4294967296) (l := V % 4294967296) (tri_next he2) (by omega) (by omega) (by omega) (by omega) (by omega) (by omega)
                rw [y_split] at hok
                have hhi := hdec2
                refine W_exit ?_
                refine inBlk_exit_ne (by decide) ?_
                refine thn_exit ?_
                refine inBlk_exit ?_
                refine thn_normal ?_
                refine W_seq ?_
                refine W_region rfl ?_
                refine WO_p (PS_move_int rfl) ?_
                refine WO_p (PS_mul_u64w rfl rfl) ?_
                refine WO_p (PS_move_int rfl) ?_
                refine WO_p (PS_add_u64w rfl rfl) ?_
                refine WO_p (PS_move_int rfl) ?_
                refine WO_p (PS_mul_u64w rfl rfl) ?_
                refine WO_p (PS_move_int rfl) ?_
                refine WO_p (PS_add_u64w rfl rfl) ?_
                refine WO_p (PS_move_int rfl) ?_
                refine WO_p (PS_move_int rfl) ?_
                refine WO_p (PS_mul_u64w rfl rfl) ?_
                refine WO_p (PS_sub_u64w rfl rfl) ?_
                obtain ⟨R, hRe, hR, hRb⟩ := un21 (by omega) hok hhi
                rw [hRe]
                clear hRe
                refine WO_p (PS_move_int rfl) ?_
                refine WO_p (PS_shr_u64 (64 - n) rfl rfl (by omega) (by omega)) ?_
                refine WO_p (PS_assign_int rfl) ?_
                refine WO_p (PS_assign_int rfl) ?_
                refine WO_nil ?_
                refine thn_normal ?_
                refine W_ret ?_
                refine bodyQ_ret2 Hvac.results370 rfl rfl (.int _ _) (.int _ _) rfl rfl ?_
                first
                | (have hm := Int.mul_ediv_add_emod lo y
                   have hm2 := Int.emod_nonneg lo (show y ≠ 0 by omega)
                   have hm3 := Int.emod_lt_of_pos lo (show 0 < y by omega)
                   exact ⟨(by repeat (first | assumption | exact Ext.refl _ | refine Ext.alloc ?_ _ | refine Ext.drew ?_ | refine Ext.setB ?_ (by first | omega | (simp only [size_alloc, size_setB, size_drew]; omega)) _ | refine Ext.trans ?_ (by assumption))), _, _, rfl, quo_bd hl (by omega), ⟨hm2, hm3⟩, by rw [Int.mul_comm, hm]; omega⟩)
                | (have hfin := div_fin (pow2_pos (64 - n)) hYe hUV.1 hU2.1 hR hRb
                   have hqb : ∀ Q : Int, Q * y + R / 2 ^ (64 - n) = hi * 18446744073709551616 + lo → 0 ≤ Q → 0 ≤ Q ∧ Q ≤ 18446744073709551615 := by
                     intro Q hQ hQ0
                     refine ⟨hQ0, ?_⟩
                     rcases Int.lt_or_le 18446744073709551615 Q with h | h
                     · have h5 : 18446744073709551616 * y ≤ Q * y := Int.mul_le_mul_of_nonneg_right h hy.1
                       omega
                     · exact h
                   have hqb2 := hqb _ hfin.1 (by omega)
                   refine ⟨hE3, _, _, rfl, by omega, hfin.2, ?_⟩
                   rw [← hfin.1]
                   congr 2
                   omega)
              · have hb15p := hb15.h; try simp only [al_ete, al_dfn, Bool.not_eq_true', Bool.not_eq_false', al_ne, Bool.not_not, al_nn] at hb15p
                refine W_skip ?_
                refine inBlk_normal ?_
                refine thn_normal ?_
                exact ⟨m2 - 1, by omega, q2 - 1, _, q1, U3, hq1, hU2, by omega, ⟨by omega, by omega⟩, by omega, tri_next he2, hdec2, ⟨rfl, rfl, rfl, rfl, rfl, rfl, rfl, rfl, rfl, trivial⟩, hE3⟩
            · have hb13p := hb13.h; try simp only [al_ete, al_dfn, Bool.not_eq_true', Bool.not_eq_false', al_ne, Bool.not_not, al_nn] at hb13p
              have hlt9 := hb13p
              refine WO_guardT rfl rfl hb13.h ?_
              refine WO_p (PS_move_int rfl) ?_
              refine WO_guardT rfl rfl hb13.h ?_
              refine WO_p (PS_move_int rfl) ?_
              refine WO_guardT rfl rfl hb13.h ?_
              refine WO_p (PS_mul_u64w rfl rfl) ?_
              refine WO_guardT rfl rfl hb13.h ?_
              refine WO_p (PS_move_int rfl) ?_
              refine WO_guardT rfl rfl hb13.h ?_
              refine WO_p (PS_mul_u64w rfl rfl) ?_
              refine WO_guardT rfl rfl hb13.h ?_
              refine WO_p (PS_move_int rfl) ?_
              refine WO_guardT rfl rfl hb13.h ?_
              refine WO_p (PS_add_u64w rfl rfl) ?_
              refine WO_guardT rfl rfl hb13.h ?_
              refine WO_p (PS_gtr rfl rfl) ?_
              refine WO_p (PS_pickF rfl hb13.h rfl) ?_
              refine WO_nil ?_
              refine thn_normal ?_
              refine W_if rfl (fun hb17 => ?_) (fun hb17 => ?_)
              · have hb17p := hb17.h; try simp only [al_ete, al_dfn, Bool.not_eq_true', Bool.not_eq_false', al_ne, Bool.not_not, al_nn] at hb17p
                have hpb := mul_bd (a := q2) (b := Y % 4294967296) (A := 4294967297) (B := 4294967295) (by omega) (by omega) (by omega) (by omega)
                have hdec2 : U3 * 4294967296 + V % 4294967296 < (q2 - 1 + 1) * Y := by
                  first
                  | (have h9 := hb17p
                     try simp only [al_ete] at h9
                     have hpb2 := mul_bd (a := q2) (b := Y % 4294967296) (A := 4294967295) (B := 4294967295) (by omega) (by omega) (by omega) (by omega)
                     have := tri_dec (y0 := Y % 4294967296) (b := 4294967296) (l := V % 4294967296) he2 (by generalize q2 * (Y % 4294967296) = z at *; omega)
                     rw [y_split] at this
                     exact this)
                have hq1_ : 1 ≤ q2 := by
                  first
                  | omega
                  | (rcases Int.lt_or_le 0 q2 with h | h
                     · exact h
                     · have h8 : q2 = 0 := by omega
                       have h9 := hb17p
                       rw [h8] at h9
                       try simp only [al_ete] at h9
                       omega)
                refine W_skip ?_
                refine thn_normal ?_
                refine W_block ?_
                refine W_seq ?_
                refine W_region rfl ?_
                refine WO_p (PS_move_int rfl) ?_
                refine WO_p (PS_sub_u64w rfl rfl) ?_
                rw [show (q2 - 1) % 18446744073709551616 = q2 - 1 by omega]
                refine WO_p (PS_assign_int rfl) ?_
                refine WO_nil ?_
                refine thn_normal ?_
                refine W_seq ?_
                refine W_region rfl ?_
                refine WO_p (PS_move_int rfl) ?_
                refine WO_p (PS_move_int rfl) ?_
                refine WO_p (PS_add_u64n rfl rfl (by omega) (by omega)) ?_
                refine WO_p (PS_assign_int rfl) ?_
                refine WO_nil ?_
                refine thn_normal ?_
                refine W_seq ?_
                refine W_region rfl ?_
                refine WO_p (PS_move_int rfl) ?_
                refine WO_p (PS_geq rfl rfl) ?_
                refine WO_nil ?_
                refine thn_normal ?_
                refine W_if rfl (fun hb19 => ?_) (fun hb19 => ?_)
                · have hb19p := hb19.h; try simp only [al_ete, al_dfn, Bool.not_eq_true', Bool.not_eq_false', al_ne, Bool.not_not, al_nn] at hb19p
                  have hok := tri_big (y0 := Y % 4294967296) (b := 4294967296) (l := V % 4294967296) (tri_next he2) (by omega) (by omega) (by omega) (by omega) (by omega) (by omega)
                  rw [y_split] at hok
                  have hhi := hdec2
                  refine W_exit ?_
                  refine inBlk_exit_ne (by decide) ?_
                  refine thn_exit ?_
                  refine inBlk_exit ?_
                  refine thn_normal ?_
                  refine W_seq ?_
                  refine W_region rfl ?_
                  refine WO_p (PS_move_int rfl) ?_
                  refine WO_p (PS_mul_u64w rfl rfl) ?_
                  refine WO_p (PS_move_int rfl) ?_
                  refine WO_p (PS_add_u64w rfl rfl) ?_
                  refine WO_p (PS_move_int rfl) ?_
                  refine WO_p (PS_mul_u64w rfl rfl) ?_
                  refine WO_p (PS_move_int rfl) ?_
                  refine WO_p (PS_add_u64w rfl rfl) ?_
                  refine WO_p (PS_move_int rfl) ?_
                  refine WO_p (PS_move_int rfl) ?_
                  refine WO_p (PS_mul_u64w rfl rfl) ?_
                  refine WO_p (PS_sub_u64w rfl rfl) ?_
                  obtain ⟨R, hRe, hR, hRb⟩ := un21 (by omega) hok hhi
                  rw [hRe]
                  clear hRe
                  refine WO_p (PS_move_int rfl) ?_
                  refine WO_p (PS_shr_u64 (64 - n) rfl rfl (by omega) (by omega)) ?_
                  refine WO_p (PS_assign_int rfl) ?_
                  refine WO_p (PS_assign_int rfl) ?_
                  refine WO_nil ?_
                  refine thn_normal ?_
                  refine W_ret ?_
                  refine bodyQ_ret2 Hvac.results370 rfl rfl (.int _ _) (.int _ _) rfl rfl ?_
                  first
                  | (have hm := Int.mul_ediv_add_emod lo y
                     have hm2 := Int.emod_nonneg lo (show y ≠ 0 by omega)
                     have hm3 := Int.emod_lt_of_pos lo (show 0 < y by omega)
                     exact ⟨(by repeat (first | assumption | exact Ext.refl _ | refine Ext.alloc ?_ _ | refine Ext.drew ?_ | refine Ext.setB ?_ (by first | omega | (simp only [size_alloc, size_setB, size_drew]; omega)) _ | refine Ext.trans ?_ (by assumption))), _, _, rfl, quo_bd hl (by omega), ⟨hm2, hm3⟩, by rw [Int.mul_comm, hm]; omega⟩)
                  | (have hfin := div_fin (pow2_pos (64 - n)) hYe hUV.1 hU2.1 hR hRb
                     have hqb : ∀ Q : Int, Q * y + R / 2 ^ (64 - n) = hi * 18446744073709551616 + lo → 0 ≤ Q → 0 ≤ Q ∧ Q ≤ 18446744073709551615 := by
                       intro Q hQ hQ0
                       refine ⟨hQ0, ?_⟩
                       rcases Int.lt_or_le 18446744073709551615 Q with h | h
                       · have h5 : 18446744073709551616 * y ≤ Q * y := Int.mul_le_mul_of_nonneg_right h hy.1
                         omega
                       · exact h
                     have hqb2 := hqb _ hfin.1 (by omega)
                     refine ⟨hE3, _, _, rfl, by omega, hfin.2, ?_⟩
                     rw [← hfin.1]
                     congr 2
                     omega)
                · have hb19p := hb19.h; try simp only [al_ete, al_dfn, Bool.not_eq_true', Bool.not_eq_false', al_ne, Bool.not_not, al_nn] at hb19p
                  refine W_skip ?_
                  refine inBlk_normal ?_
                  refine thn_normal ?_
                  exact ⟨m2 - 1, by omega, q2 - 1, _, q1, U3, hq1, hU2, by omega, ⟨by omega, by omega⟩, by omega, tri_next he2, hdec2, ⟨rfl, rfl, rfl, rfl, rfl, rfl, rfl, rfl, rfl, trivial⟩, hE3⟩
              · have hb17p := hb17.h; try simp only [al_ete, al_dfn, Bool.not_eq_true', Bool.not_eq_false', al_ne, Bool.not_not, al_nn] at hb17p
                have h9 := hb17p
                try simp only [al_dfn] at h9
                have hpb2 := mul_bd (a := q2) (b := Y % 4294967296) (A := 4294967295) (B := 4294967295) (by omega) (by omega) (by omega) (by omega)
                have hok := tri_ok (y0 := Y % 4294967296) (b := 4294967296) (l := V % 4294967296) he2 (by generalize q2 * (Y % 4294967296) = z at *; omega)
                rw [y_split] at hok
                have hhi := hT2
                refine W_exit ?_
                refine thn_exit ?_
                refine thn_exit ?_
                refine inBlk_exit ?_
                refine thn_normal ?_
                refine W_seq ?_
                refine W_region rfl ?_
                refine WO_p (PS_move_int rfl) ?_
                refine WO_p (PS_mul_u64w rfl rfl) ?_
                refine WO_p (PS_move_int rfl) ?_
                refine WO_p (PS_add_u64w rfl rfl) ?_
                refine WO_p (PS_move_int rfl) ?_
                refine WO_p (PS_mul_u64w rfl rfl) ?_
                refine WO_p (PS_move_int rfl) ?_
                refine WO_p (PS_add_u64w rfl rfl) ?_
                refine WO_p (PS_move_int rfl) ?_
                refine WO_p (PS_move_int rfl) ?_
                refine WO_p (PS_mul_u64w rfl rfl) ?_
                refine WO_p (PS_sub_u64w rfl rfl) ?_
                obtain ⟨R, hRe, hR, hRb⟩ := un21 (by omega) hok hhi
                rw [hRe]
                clear hRe
                refine WO_p (PS_move_int rfl) ?_
                refine WO_p (PS_shr_u64 (64 - n) rfl rfl (by omega) (by omega)) ?_
                refine WO_p (PS_assign_int rfl) ?_
                refine WO_p (PS_assign_int rfl) ?_
                refine WO_nil ?_
                refine thn_normal ?_
                refine W_ret ?_
                refine bodyQ_ret2 Hvac.results370 rfl rfl (.int _ _) (.int _ _) rfl rfl ?_
                first
                | (have hm := Int.mul_ediv_add_emod lo y
                   have hm2 := Int.emod_nonneg lo (show y ≠ 0 by omega)
                   have hm3 := Int.emod_lt_of_pos lo (show 0 < y by omega)
                   exact ⟨(by repeat (first | assumption | exact Ext.refl _ | refine Ext.alloc ?_ _ | refine Ext.drew ?_ | refine Ext.setB ?_ (by first | omega | (simp only [size_alloc, size_setB, size_drew]; omega)) _ | refine Ext.trans ?_ (by assumption))), _, _, rfl, quo_bd hl (by omega), ⟨hm2, hm3⟩, by rw [Int.mul_comm, hm]; omega⟩)
                | (have hfin := div_fin (pow2_pos (64 - n)) hYe hUV.1 hU2.1 hR hRb
                   have hqb : ∀ Q : Int, Q * y + R / 2 ^ (64 - n) = hi * 18446744073709551616 + lo → 0 ≤ Q → 0 ≤ Q ∧ Q ≤ 18446744073709551615 := by
                     intro Q hQ hQ0
                     refine ⟨hQ0, ?_⟩
                     rcases Int.lt_or_le 18446744073709551615 Q with h | h
                     · have h5 : 18446744073709551616 * y ≤ Q * y := Int.mul_le_mul_of_nonneg_right h hy.1
                       omega
                     · exact h
                   have hqb2 := hqb _ hfin.1 (by omega)
                   refine ⟨hE3, _, _, rfl, by omega, hfin.2, ?_⟩
                   rw [← hfin.1]
                   congr 2
                   omega)
          · have hb11p := hb11.h; try simp only [al_ete, al_dfn, Bool.not_eq_true', Bool.not_eq_false', al_ne, Bool.not_not, al_nn] at hb11p
            refine W_skip ?_
            refine inBlk_normal ?_
            refine thn_normal ?_
            exact ⟨m - 1, by omega, q - 1, _, by omega, ⟨by omega, by omega⟩, by omega, tri_next he, hdec, ⟨rfl, rfl, rfl, rfl, rfl, rfl, rfl, rfl, rfl, trivial⟩, hE2⟩
        · have hb9p := hb9.h; try simp only [al_ete, al_dfn, Bool.not_eq_true', Bool.not_eq_false', al_ne, Bool.not_not, al_nn] at hb9p
          have hlt9 := hb9p
          refine WO_guardT rfl rfl hb9.h ?_
          refine WO_p (PS_move_int rfl) ?_
          refine WO_guardT rfl rfl hb9.h ?_
          refine WO_p (PS_move_int rfl) ?_
          refine WO_guardT rfl rfl hb9.h ?_
          refine WO_p (PS_mul_u64w rfl rfl) ?_
          refine WO_guardT rfl rfl hb9.h ?_
          refine WO_p (PS_move_int rfl) ?_
          refine WO_guardT rfl rfl hb9.h ?_
          refine WO_p (PS_mul_u64w rfl rfl) ?_
          refine WO_guardT rfl rfl hb9.h ?_
          refine WO_p (PS_move_int rfl) ?_
          refine WO_guardT rfl rfl hb9.h ?_
          refine WO_p (PS_add_u64w rfl rfl) ?_
          refine WO_guardT rfl rfl hb9.h ?_
          refine WO_p (PS_gtr rfl rfl) ?_
          refine WO_p (PS_pickF rfl hb9.h rfl) ?_
          refine WO_nil ?_
          refine thn_normal ?_
          refine W_if rfl (fun hb21 => ?_) (fun hb21 => ?_)
          · have hb21p := hb21.h; try simp only [al_ete, al_dfn, Bool.not_eq_true', Bool.not_eq_false', al_ne, Bool.not_not, al_nn] at hb21p
            have hpb := mul_bd (a := q) (b := Y % 4294967296) (A := 4294967297) (B := 4294967295) (by omega) (by omega) (by omega) (by omega)
            have hdec : U * 4294967296 + V / 2 ^ 32 < (q - 1 + 1) * Y := by
              first
              | (have h9 := hb21p
                 try simp only [al_ete] at h9
                 have hpb2 := mul_bd (a := q) (b := Y % 4294967296) (A := 4294967295) (B := 4294967295) (by omega) (by omega) (by omega) (by omega)
                 have := tri_dec (y0 := Y % 4294967296) (b := 4294967296) (l := V / 2 ^ 32) he (by generalize q * (Y % 4294967296) = z at *; omega)
                 rw [y_split] at this
                 exact this)
            have hq1_ : 1 ≤ q := by
              first
              | omega
              | (rcases Int.lt_or_le 0 q with h | h
                 · exact h
                 · have h8 : q = 0 := by omega
                   have h9 := hb21p
                   rw [h8] at h9
                   try simp only [al_ete] at h9
                   omega)
            refine W_skip ?_
            refine thn_normal ?_
            refine W_block ?_
            refine W_seq ?_
            refine W_region rfl ?_
            refine WO_p (PS_move_int rfl) ?_
            refine WO_p (PS_sub_u64w rfl rfl) ?_
            rw [show (q - 1) % 18446744073709551616 = q - 1 by omega]
            refine WO_p (PS_assign_int rfl) ?_
            refine WO_nil ?_
            refine thn_normal ?_
            refine W_seq ?_
            refine W_region rfl ?_
            refine WO_p (PS_move_int rfl) ?_
            refine WO_p (PS_move_int rfl) ?_
            refine WO_p (PS_add_u64n rfl rfl (by omega) (by omega)) ?_
            refine WO_p (PS_assign_int rfl) ?_
            refine WO_nil ?_
            refine thn_normal ?_
            refine W_seq ?_
            refine W_region rfl ?_
            refine WO_p (PS_move_int rfl) ?_
            refine WO_p (PS_geq rfl rfl) ?_
            refine WO_nil ?_
            refine thn_normal ?_
            refine W_if rfl (fun hb23 => ?_) (fun hb23 => ?_)
            · have hb23p := hb23.h; try simp only [al_ete, al_dfn, Bool.not_eq_true', Bool.not_eq_false', al_ne, Bool.not_not, al_nn] at hb23p
              have hok := tri_big (y0 := Y % 4294967296) (b := 4294967296) (l := V / 2 ^ 32) (tri_next he) (by omega) (by omega) (by omega) (by omega) (by omega) (by omega)
              rw [y_split] at hok
              have hhi := hdec
              refine W_exit ?_
              refine inBlk_exit_ne (by decide) ?_
              refine thn_exit ?_
              refine inBlk_exit ?_
              refine thn_normal ?_
              refine W_seq ?_
              refine W_region rfl ?_
              refine WO_p (PS_move_int rfl) ?_
              refine WO_p (PS_mul_u64w rfl rfl) ?_
              refine WO_p (PS_move_int rfl) ?_
              refine WO_p (PS_add_u64w rfl rfl) ?_
              refine WO_p (PS_move_int rfl) ?_
              refine WO_p (PS_move_int rfl) ?_
              refine WO_p (PS_mul_u64w rfl rfl) ?_
              refine WO_p (PS_sub_u64w rfl rfl) ?_
              obtain ⟨U2, hU2e, hU2, hU2b⟩ := un21 (by omega) hok hhi
              rw [hU2e]
              clear hU2e
              refine WO_p (PS_assign_int rfl) ?_
              refine WO_nil ?_
              refine thn_normal ?_
              refine W_seq ?_
              refine W_region rfl ?_
              refine WO_p (PS_move_int rfl) ?_
              refine WO_p (PS_move_int rfl) ?_
              refine WO_p (PS_quo_u64 rfl rfl (by omega) (by omega) (by omega)) ?_
              refine WO_p (PS_assign_int rfl) ?_
              refine WO_nil ?_
              refine thn_normal ?_
              refine W_seq ?_
              refine W_region rfl ?_
              refine WO_p (PS_move_int rfl) ?_
              refine WO_p (PS_move_int rfl) ?_
              refine WO_p (PS_move_int rfl) ?_
              refine WO_p (PS_mul_u64w rfl rfl) ?_
              refine WO_p (PS_sub_u64w rfl rfl) ?_
              rw [rem_wrap ⟨by omega, by omega⟩ (by omega)]
              refine WO_p (PS_assign_int rfl) ?_
              refine WO_nil ?_
              refine thn_normal ?_
              refine W_seq ?_
              refine W_block ?_
              refine W_loopN (fun m ρ w' => ∃ q r q1 U2 : Int, (0 ≤ q1 ∧ q1 ≤ 4294967297) ∧ (q1 * Y + U2 = U * 4294967296 + V / 2 ^ 32 ∧ 0 ≤ U2 ∧ U2 < Y) ∧ (0 ≤ q ∧ q ≤ 4294967297) ∧ (0 ≤ r ∧ r < 4294967296) ∧ 4294967296 - r ≤ m ∧ q * (Y / 2 ^ 32) + r = U2 ∧ U2 * 4294967296 + V % 4294967296 < (q + 1) * Y ∧ Fr [(2, .int .u64 Y), (8, .int .u64 (64 - n)), (9, .int .u64 (Y / 2 ^ 32)), (10, .int .u64 (Y % 4294967296)), (14, .int .u64 (V % 4294967296)), (16, .int .u64 r), (15, .int .u64 q1), (17, .int .u64 U2), (18, .int .u64 q)] ρ ∧ Ext w w') 4294967296 ?_ ?_
              · have hq := tri_top (h := U2) (y1 := Y / 2 ^ 32) (y0 := Y % 4294967296) (b := 4294967296) (by omega) (by omega) (by omega) (by omega) (by omega)
                have hq0 : 0 ≤ U2 / (Y / 2 ^ 32) := Int.ediv_nonneg (by omega) (by omega)
                have hr0 := Int.emod_nonneg U2 (b := Y / 2 ^ 32) (by omega)
                have hr1 := Int.emod_lt_of_pos U2 (b := Y / 2 ^ 32) (by omega)
                have hi0 := tri_init (h := U2) (y1 := Y / 2 ^ 32) (y0 := Y % 4294967296) (b := 4294967296) (l := V % 4294967296) (by omega) (by omega) (by omega) (by omega) (by omega)
                rw [y_split] at hi0
                exact ⟨_, _, _, U2, (by omega), ⟨hU2, hU2b⟩, ⟨hq0, hq⟩, ⟨hr0, by omega⟩, by omega, by rw [Int.mul_comm]; exact Int.mul_ediv_add_emod _ _, hi0, ⟨rfl, rfl, rfl, rfl, rfl, rfl, rfl, rfl, rfl, trivial⟩, hE2⟩
              intro m2 ρ2 w3 hI
              clear hU2 hU2b hok hhi
              obtain ⟨q2, r2, q1, U3, hq1, hU2, hq2, hr2, hm2, he2, hT2, hF2, hE3⟩ := hI
              refine W_env _ hF2 ?_
              refine W_seq ?_
              refine W_seq ?_
              refine W_region rfl ?_
              refine WO_p (PS_move_int rfl) ?_
              refine WO_p (PS_geq rfl rfl) ?_
              refine WO_p (PS_move_bool rfl) ?_
              refine WO_if (t := 104) rfl (fun hb25 => ?_) (fun hb25 => ?_)
              · have hb25p := hb25.h; try simp only [al_ete, al_dfn, Bool.not_eq_true', Bool.not_eq_false', al_ne, Bool.not_not, al_nn] at hb25p
                have hge := hb25p
                have hdec2 : U3 * 4294967296 + V % 4294967296 < (q2 - 1 + 1) * Y := tri_decB (by omega) hge (tri_T (by omega) (by omega) (by omega))
                have hq1_ : 1 ≤ q2 := by omega
                refine WO_guardF rfl rfl hb25.h ?_
                refine WO_guardF rfl rfl hb25.h ?_
                refine WO_guardF rfl rfl hb25.h ?_
                refine WO_guardF rfl rfl hb25.h ?_
                refine WO_guardF rfl rfl hb25.h ?_
                refine WO_guardF rfl rfl hb25.h ?_
                refine WO_guardF rfl rfl hb25.h ?_
                refine WO_guardF rfl rfl hb25.h ?_
                refine WO_p (PS_pickT rfl hb25.h rfl) ?_
                refine WO_nil ?_
                refine thn_normal ?_
                refine W_condT rfl rfl ?_
                refine W_skip ?_
                refine thn_normal ?_
                refine W_block ?_
                refine W_seq ?_
                refine W_region rfl ?_
                refine WO_p (PS_move_int rfl) ?_
                refine WO_p (PS_sub_u64w rfl rfl) ?_
                rw [show (q2 - 1) % 18446744073709551616 = q2 - 1 by omega]
                refine WO_p (PS_assign_int rfl) ?_
                refine WO_nil ?_
                refine thn_normal ?_
                refine W_seq ?_
                refine W_region rfl ?_
                refine WO_p (PS_move_int rfl) ?_
                refine WO_p (PS_move_int rfl) ?_
                refine WO_p (PS_add_u64n rfl rfl (by omega) (by omega)) ?_
                refine WO_p (PS_assign_int rfl) ?_
                refine WO_nil ?_
                refine thn_normal ?_
                refine W_seq ?_
                refine W_region rfl ?_
                refine WO_p (PS_move_int rfl) ?_
                refine WO_p (PS_geq rfl rfl) ?_
                refine WO_nil ?_
                refine thn_normal ?_
                refine W_if rfl (fun hb27 => ?_) (fun hb27 => ?_)
                · have hb27p := hb27.h; try simp only [al_ete, al_dfn, Bool.not_eq_true', Bool.not_eq_false', al_ne, Bool.not_not, al_nn] at hb27p
                  have hok := tri_big (y0 := Y % 4294967296) (b := 4294967296) (l := V % 4294967296) (tri_next he2) (by omega) (by omega) (by omega) (by omega) (by omega) (by omega)
                  rw [y_split] at hok
                  have hhi := hdec2
                  refine W_exit ?_
                  refine inBlk_exit_ne (by decide) ?_
                  refine thn_exit ?_
                  refine inBlk_exit ?_
                  refine thn_normal ?_
                  refine W_seq ?_
                  refine W_region rfl ?_
                  refine WO_p (PS_move_int rfl) ?_
                  refine WO_p (PS_mul_u64w rfl rfl) ?_
                  refine WO_p (PS_move_int rfl) ?_
                  refine WO_p (PS_add_u64w rfl rfl) ?_
                  refine WO_p (PS_move_int rfl) ?_
                  refine WO_p (PS_mul_u64w rfl rfl) ?_
                  refine WO_p (PS_move_int rfl) ?_
                  refine WO_p (PS_add_u64w rfl rfl) ?_
                  refine WO_p (PS_move_int rfl) ?_
                  refine WO_p (PS_move_int rfl) ?_
                  refine WO_p (PS_mul_u64w rfl rfl) ?_
                  refine WO_p (PS_sub_u64w rfl rfl) ?_
                  obtain ⟨R, hRe, hR, hRb⟩ := un21 (by omega) hok hhi
                  rw [hRe]
                  clear hRe
                  refine WO_p (PS_move_int rfl) ?_
                  refine WO_p (PS_shr_u64 (64 - n) rfl rfl (by omega) (by omega)) ?_
                  refine WO_p (PS_assign_int rfl) ?_
                  refine WO_p (PS_assign_int rfl) ?_
                  refine WO_nil ?_
                  refine thn_normal ?_
                  refine W_ret ?_
                  refine bodyQ_ret2 Hvac.results370 rfl rfl (.int _ _) (.int _ _) rfl rfl ?_
                  first
                  | (have hm := Int.mul_ediv_add_emod lo y
                     have hm2 := Int.emod_nonneg lo (show y ≠ 0 by omega)
                     have hm3 := Int.emod_lt_of_pos lo (show 0 < y by omega)
                     exact ⟨(by repeat (first | assumption | exact Ext.refl _ | refine Ext.alloc ?_ _ | refine Ext.drew ?_ | refine Ext.setB ?_ (by first | omega | (simp only [size_alloc, size_setB, size_drew]; omega)) _ | refine Ext.trans ?_ (by assumption))), _, _, rfl, quo_bd hl (by omega), ⟨hm2, hm3⟩, by rw [Int.mul_comm, hm]; omega⟩)
                  | (have hfin := div_fin (pow2_pos (64 - n)) hYe hUV.1 hU2.1 hR hRb
                     have hqb : ∀ Q : Int, Q * y + R / 2 ^ (64 - n) = hi * 18446744073709551616 + lo → 0 ≤ Q → 0 ≤ Q ∧ Q ≤ 18446744073709551615 := by
                       intro Q hQ hQ0
                       refine ⟨hQ0, ?_⟩
                       rcases Int.lt_or_le 18446744073709551615 Q with h | h
                       · have h5 : 18446744073709551616 * y ≤ Q * y := Int.mul_le_mul_of_nonneg_right h hy.1
                         omega
                       · exact h
                     have hqb2 := hqb _ hfin.1 (by omega)
                     refine ⟨hE3, _, _, rfl, by omega, hfin.2, ?_⟩
                     rw [← hfin.1]
                     congr 2
                     omega)
                · have hb27p := hb27.h; try simp only [al_ete, al_dfn, Bool.not_eq_true', Bool.not_eq_false', al_ne, Bool.not_not, al_nn] at hb27p
                  refine W_skip ?_
                  refine inBlk_normal ?_
                  refine thn_normal ?_
                  exact ⟨m2 - 1, by omega, q2 - 1, _, q1, U3, hq1, hU2, by omega, ⟨by omega, by omega⟩, by omega, tri_next he2, hdec2, ⟨rfl, rfl, rfl, rfl, rfl, rfl, rfl, rfl, rfl, trivial⟩, hE3⟩
              · have hb25p := hb25.h; try simp only [al_ete, al_dfn, Bool.not_eq_true', Bool.not_eq_false', al_ne, Bool.not_not, al_nn] at hb25p
                have hlt9 := hb25p
                refine WO_guardT rfl rfl hb25.h ?_
                refine WO_p (PS_move_int rfl) ?_
                refine WO_guardT rfl rfl hb25.h ?_
                refine WO_p (PS_move_int rfl) ?_
                refine WO_guardT rfl rfl hb25.h ?_
                refine WO_p (PS_mul_u64w rfl rfl) ?_
                refine WO_guardT rfl rfl hb25.h ?_
                refine WO_p (PS_move_int rfl) ?_
                refine WO_guardT rfl rfl hb25.h ?_
                refine WO_p (PS_mul_u64w rfl rfl) ?_
                refine WO_guardT rfl rfl hb25.h ?_
                refine WO_p (PS_move_int rfl) ?_
                refine WO_guardT rfl rfl hb25.h ?_
                refine WO_p (PS_add_u64w rfl rfl) ?_
                refine WO_guardT rfl rfl hb25.h ?_
                refine WO_p (PS_gtr rfl rfl) ?_
                refine WO_p (PS_pickF rfl hb25.h rfl) ?_
                refine WO_nil ?_
                refine thn_normal ?_
                refine W_if rfl (fun hb29 => ?_) (fun hb29 => ?_)
                · have hb29p := hb29.h; try simp only [al_ete, al_dfn, Bool.not_eq_true', Bool.not_eq_false', al_ne, Bool.not_not, al_nn] at hb29p
                  have hpb := mul_bd (a := q2) (b := Y % 4294967296) (A := 4294967297) (B := 4294967295) (by omega) (by omega) (by omega) (by omega)
                  have hdec2 : U3 * 4294967296 + V % 4294967296 < (q2 - 1 + 1) * Y := by
                    first
                    | (have h9 := hb29p
                       try simp only [al_ete] at h9
                       have hpb2 := mul_bd (a := q2) (b := Y % 4294967296) (A := 4294967295) (B := 4294967295) (by omega) (by omega) (by omega) (by omega)
                       have := tri_dec (y0 := Y % 4294967296) (b := 4294967296) (l := V % 4294967296) he2 (by generalize q2 * (Y % 4294967296) = z at *; omega)
                       rw [y_split] at this
                       exact this)
                  have hq1_ : 1 ≤ q2 := by
                    first
                    | omega
                    | (rcases Int.lt_or_le 0 q2 with h | h
                       · exact h
                       · have h8 : q2 = 0 := by omega
                         have h9 := hb29p
                         rw [h8] at h9
                         try simp only [al_ete] at h9
                         omega)
                  refine W_skip ?_
                  refine thn_normal ?_
                  refine W_block ?_
                  refine W_seq ?_
                  refine W_region rfl ?_
                  refine WO_p (PS_move_int rfl) ?_
                  refine WO_p (PS_sub_u64w rfl rfl) ?_
                  rw [show (q2 - 1) % 18446744073709551616 = q2 - 1 by omega]
                  refine WO_p (PS_assign_int rfl) ?_
                  refine WO_nil ?_
                  refine thn_normal ?_
                  refine W_seq ?_
                  refine W_region rfl ?_
                  refine WO_p (PS_move_int rfl) ?_
                  refine WO_p (PS_move_int rfl) ?_
                  refine WO_p (PS_add_u64n rfl rfl (by omega) (by omega)) ?_
                  refine WO_p (PS_assign_int rfl) ?_
                  refine WO_nil ?_
                  refine thn_normal ?_
                  refine W_seq ?_
                  refine W_region rfl ?_
                  refine WO_p (PS_move_int rfl) ?_
                  refine WO_p (PS_geq rfl rfl) ?_
                  refine WO_nil ?_
                  refine thn_normal ?_
                  refine W_if rfl (fun hb31 => ?_) (fun hb31 => ?_)
                  · have hb31p := hb31.h; try simp only [al_ete, al_dfn, Bool.not_eq_true', Bool.not_eq_false', al_ne, Bool.not_not, al_nn] at hb31p
                    have hok := tri_big (y0 := Y % 4294967296) (b := 4294967296) (l := V % 4294967296) (tri_next he2) (by omega) (by omega) (by omega) (by omega) (by omega) (by omega)
                    rw [y_split] at hok
                    have hhi := hdec2
                    refine W_exit ?_
                    refine inBlk_exit_ne (by decide) ?_
                    refine thn_exit ?_
                    refine inBlk_exit ?_
                    refine thn_normal ?_
                    refine W_seq ?_
                    refine W_region rfl ?_
                    refine WO_p (PS_move_int rfl) ?_
                    refine WO_p (PS_mul_u64w rfl rfl) ?_
                    refine WO_p (PS_move_int rfl) ?_
                    refine WO_p (PS_add_u64w rfl rfl) ?_
                    refine WO_p (PS_move_int rfl) ?_
                    refine WO_p (PS_mul_u64w rfl rfl) ?_
                    refine WO_p (PS_move_int rfl) ?_
                    refine WO_p (PS_add_u64w rfl rfl) ?_
                    refine WO_p (PS_move_int rfl) ?_
                    refine WO_p (PS_move_int rfl) ?_
                    refine WO_p (PS_mul_u64w rfl rfl) ?_
                    refine WO_p (PS_sub_u64w rfl rfl) ?_
                    obtain ⟨R, hRe, hR, hRb⟩ := un21 (by omega) hok hhi
                    rw [hRe]
                    clear hRe
                    refine WO_p (PS_move_int rfl) ?_
                    refine WO_p (PS_shr_u64 (64 - n) rfl rfl (by omega) (by omega)) ?_
                    refine WO_p (PS_assign_int rfl) ?_
                    refine WO_p (PS_assign_int rfl) ?_
                    refine WO_nil ?_
                    refine thn_normal ?_
                    refine W_ret ?_
                    refine bodyQ_ret2 Hvac.results370 rfl rfl (.int _ _) (.int _ _) rfl rfl ?_
                    first
                    | (have hm := Int.mul_ediv_add_emod lo y
                       have hm2 := Int.emod_nonneg lo (show y ≠ 0 by omega)
                       have hm3 := Int.emod_lt_of_pos lo (show 0 < y by omega)
                       exact ⟨(by repeat (first | assumption | exact Ext.refl _ | refine Ext.alloc ?_ _ | refine Ext.drew ?_ | refine Ext.setB ?_ (by first | omega | (simp only [size_alloc, size_setB, size_drew]; omega)) _ | refine Ext.trans ?_ (by assumption))), _, _, rfl, quo_bd hl (by omega), ⟨hm2, hm3⟩, by rw [Int.mul_comm, hm]; omega⟩)
                    | (have hfin := div_fin (pow2_pos (64 - n)) hYe hUV.1 hU2.1 hR hRb
                       have hqb : ∀ Q : Int, Q * y + R / 2 ^ (64 - n) = hi * 18446744073709551616 + lo → 0 ≤ Q → 0 ≤ Q ∧ Q ≤ 18446744073709551615 := by
                         intro Q hQ hQ0
                         refine ⟨hQ0, ?_⟩
                         rcases Int.lt_or_le 18446744073709551615 Q with h | h
                         · have h5 : 18446744073709551616 * y ≤ Q * y := Int.mul_le_mul_of_nonneg_right h hy.1
                           omega
                         · exact h
                       have hqb2 := hqb _ hfin.1 (by omega)
                       refine ⟨hE3, _, _, rfl, by omega, hfin.2, ?_⟩
                       rw [← hfin.1]
                       congr 2
                       omega)
                  · have hb31p := hb31.h; try simp only [al_ete, al_dfn, Bool.not_eq_true', Bool.not_eq_false', al_ne, Bool.not_not, al_nn] at hb31p
                    refine W_skip ?_
                    refine inBlk_normal ?_
                    refine thn_normal ?_
                    exact ⟨m2 - 1, by omega, q2 - 1, _, q1, U3, hq1, hU2, by omega, ⟨by omega, by omega⟩, by omega, tri_next he2, hdec2, ⟨rfl, rfl, rfl, rfl, rfl, rfl, rfl, rfl, rfl, trivial⟩, hE3⟩
                · have hb29p := hb29.h; try simp only [al_ete, al_dfn, Bool.not_eq_true', Bool.not_eq_false', al_ne, Bool.not_not, al_nn] at hb29p
                  have h9 := hb29p
                  try simp only [al_dfn] at h9
                  have hpb2 := mul_bd (a := q2) (b := Y % 4294967296) (A := 4294967295) (B := 4294967295) (by omega) (by omega) (by omega) (by omega)
                  have hok := tri_ok (y0 := Y % 4294967296) (b := 4294967296) (l := V % 4294967296) he2 (by generalize q2 * (Y % 4294967296) = z at *; omega)
                  rw [y_split] at hok
                  have hhi := hT2
                  refine W_exit ?_
                  refine thn_exit ?_
                  refine thn_exit ?_
                  refine inBlk_exit ?_
                  refine thn_normal ?_
                  refine W_seq ?_
                  refine W_region rfl ?_
                  refine WO_p (PS_move_int rfl) ?_
                  refine WO_p (PS_mul_u64w rfl rfl) ?_
                  refine WO_p (PS_move_int rfl) ?_
                  refine WO_p (PS_add_u64w rfl rfl) ?_
                  refine WO_p (PS_move_int rfl) ?_
                  refine WO_p (PS_mul_u64w rfl rfl) ?_
                  refine WO_p (PS_move_int rfl) ?_
                  refine WO_p (PS_add_u64w rfl rfl) ?_
                  refine WO_p (PS_move_int rfl) ?_
                  refine WO_p (PS_move_int rfl) ?_
                  refine WO_p (PS_mul_u64w rfl rfl) ?_
                  refine WO_p (PS_sub_u64w rfl rfl) ?_
                  obtain ⟨R, hRe, hR, hRb⟩ := un21 (by omega) hok hhi
                  rw [hRe]
                  clear hRe
                  refine WO_p (PS_move_int rfl) ?_
                  refine WO_p (PS_shr_u64 (64 - n) rfl rfl (by omega) (by omega)) ?_
                  refine WO_p (PS_assign_int rfl) ?_
                  refine WO_p (PS_assign_int rfl) ?_
                  refine WO_nil ?_
                  refine thn_normal ?_
                  refine W_ret ?_
                  refine bodyQ_ret2 Hvac.results370 rfl rfl (.int _ _) (.int _ _) rfl rfl ?_
                  first
                  | (have hm := Int.mul_ediv_add_emod lo y
                     have hm2 := Int.emod_nonneg lo (show y ≠ 0 by omega)
                     have hm3 := Int.emod_lt_of_pos lo (show 0 < y by omega)
                     exact ⟨(by repeat (first | assumption | exact Ext.refl _ | refine Ext.alloc ?_ _ | refine Ext.drew ?_ | refine Ext.setB ?_ (by first | omega | (simp only [size_alloc, size_setB, size_drew]; omega)) _ | refine Ext.trans ?_ (by assumption))), _, _, rfl, quo_bd hl (by omega), ⟨hm2, hm3⟩, by rw [Int.mul_comm, hm]; omega⟩)
                  | (have hfin := div_fin (pow2_pos (64 - n)) hYe hUV.1 hU2.1 hR hRb
                     have hqb : ∀ Q : Int, Q * y + R / 2 ^ (64 - n) = hi * 18446744073709551616 + lo → 0 ≤ Q → 0 ≤ Q ∧ Q ≤ 18446744073709551615 := by
                       intro Q hQ hQ0
                       refine ⟨hQ0, ?_⟩
                       rcases Int.lt_or_le 18446744073709551615 Q with h | h
                       · have h5 : 18446744073709551616 * y ≤ Q * y := Int.mul_le_mul_of_nonneg_right h hy.1
                         omega
                       · exact h
                     have hqb2 := hqb _ hfin.1 (by omega)
                     refine ⟨hE3, _, _, rfl, by omega, hfin.2, ?_⟩
                     rw [← hfin.1]
                     congr 2
                     omega)
            · have hb23p := hb23.h; try simp only [al_ete, al_dfn, Bool.not_eq_true', Bool.not_eq_false', al_ne, Bool.not_not, al_nn] at hb23p
              refine W_skip ?_
              refine inBlk_normal ?_
              refine thn_normal ?_
              exact ⟨m - 1, by omega, q - 1, _, by omega, ⟨by omega, by omega⟩, by omega, tri_next he, hdec, ⟨rfl, rfl, rfl, rfl, rfl, rfl, rfl, rfl, rfl, trivial⟩, hE2⟩
          · have hb21p := hb21.h; try simp only [al_ete, al_dfn, Bool.not_eq_true', Bool.not_eq_false', al_ne, Bool.not_not, al_nn] at hb21p
            have h9 := hb21p
            try simp only [al_dfn] at h9
            have hpb2 := mul_bd (a := q) (b := Y % 4294967296) (A := 4294967295) (B := 4294967295) (by omega) (by omega) (by omega) (by omega)
            have hok := tri_ok (y0 := Y % 4294967296) (b := 4294967296) (l := V / 2 ^ 32) he (by generalize q * (Y % 4294967296) = z at *; omega)
            rw [y_split] at hok
            have hhi := hT
            refine W_exit ?_
            refine thn_exit ?_
            refine thn_exit ?_
            refine inBlk_exit ?_
            refine thn_normal ?_
            refine W_seq ?_
            refine W_region rfl ?_
            refine WO_p (PS_move_int rfl) ?_
            refine WO_p (PS_mul_u64w rfl rfl) ?_
            refine WO_p (PS_move_int rfl) ?_
            refine WO_p (PS_add_u64w rfl rfl) ?_
            refine WO_p (PS_move_int rfl) ?_
            refine WO_p (PS_move_int rfl) ?_
            refine WO_p (PS_mul_u64w rfl rfl) ?_
            refine WO_p (PS_sub_u64w rfl rfl) ?_
            obtain ⟨U2, hU2e, hU2, hU2b⟩ := un21 (by omega) hok hhi
            rw [hU2e]
            clear hU2e
            refine WO_p (PS_assign_int rfl) ?_
            refine WO_nil ?_
            refine thn_normal ?_
            refine W_seq ?_
            refine W_region rfl ?_
            refine WO_p (PS_move_int rfl) ?_
            refine WO_p (PS_move_int rfl) ?_
            refine WO_p (PS_quo_u64 rfl rfl (by omega) (by omega) (by omega)) ?_
            refine WO_p (PS_assign_int rfl) ?_
            refine WO_nil ?_
            refine thn_normal ?_
            refine W_seq ?_
            refine W_region rfl ?_
            refine WO_p (PS_move_int rfl) ?_
            refine WO_p (PS_move_int rfl) ?_
            refine WO_p (PS_move_int rfl) ?_
            refine WO_p (PS_mul_u64w rfl rfl) ?_
            refine WO_p (PS_sub_u64w rfl rfl) ?_
            rw [rem_wrap ⟨by omega, by omega⟩ (by omega)]
            refine WO_p (PS_assign_int rfl) ?_
            refine WO_nil ?_
            refine thn_normal ?_
            refine W_seq ?_
            refine W_block ?_
            refine W_loopN (fun m ρ w' => ∃ q r q1 U2 : Int, (0 ≤ q1 ∧ q1 ≤ 4294967297) ∧ (q1 * Y + U2 = U * 4294967296 + V / 2 ^ 32 ∧ 0 ≤ U2 ∧ U2 < Y) ∧ (0 ≤ q ∧ q ≤ 4294967297) ∧ (0 ≤ r ∧ r < 4294967296) ∧ 4294967296 - r ≤ m ∧ q * (Y / 2 ^ 32) + r = U2 ∧ U2 * 4294967296 + V % 4294967296 < (q + 1) * Y ∧ Fr [(2, .int .u64 Y), (8, .int .u64 (64 - n)), (9, .int .u64 (Y / 2 ^ 32)), (10, .int .u64 (Y % 4294967296)), (14, .int .u64 (V % 4294967296)), (16, .int .u64 r), (15, .int .u64 q1), (17, .int .u64 U2), (18, .int .u64 q)] ρ ∧ Ext w w') 4294967296 ?_ ?_
            · have hq := tri_top (h := U2) (y1 := Y / 2 ^ 32) (y0 := Y % 4294967296) (b := 4294967296) (by omega) (by omega) (by omega) (by omega) (by omega)
              have hq0 : 0 ≤ U2 / (Y / 2 ^ 32) := Int.ediv_nonneg (by omega) (by omega)
              have hr0 := Int.emod_nonneg U2 (b := Y / 2 ^ 32) (by omega)
              have hr1 := Int.emod_lt_of_pos U2 (b := Y / 2 ^ 32) (by omega)
              have hi0 := tri_init (h := U2) (y1 := Y / 2 ^ 32) (y0 := Y % 4294967296) (b := 4294967296) (l := V % 4294967296) (by omega) (by omega) (by omega) (by omega) (by omega)
              rw [y_split] at hi0
              exact ⟨_, _, _, U2, (by omega), ⟨hU2, hU2b⟩, ⟨hq0, hq⟩, ⟨hr0, by omega⟩, by omega, by rw [Int.mul_comm]; exact Int.mul_ediv_add_emod _ _, hi0, ⟨rfl, rfl, rfl, rfl, rfl, rfl, rfl, rfl, rfl, trivial⟩, hE2⟩
            intro m2 ρ2 w3 hI
            clear hU2 hU2b hok hhi
            obtain ⟨q2, r2, q1, U3, hq1, hU2, hq2, hr2, hm2, he2, hT2, hF2, hE3⟩ := hI
            refine W_env _ hF2 ?_
            refine W_seq ?_
            refine W_seq ?_
            refine W_region rfl ?_
            refine WO_p (PS_move_int rfl) ?_
            refine WO_p (PS_geq rfl rfl) ?_
            refine WO_p (PS_move_bool rfl) ?_
            refine WO_if (t := 104) rfl (fun hb33 => ?_) (fun hb33 => ?_)
            · have hb33p := hb33.h; try simp only [al_ete, al_dfn, Bool.not_eq_true', Bool.not_eq_false', al_ne, Bool.not_not, al_nn] at hb33p
              have hge := hb33p
              have hdec2 : U3 * 4294967296 + V % 4294967296 < (q2 - 1 + 1) * Y := tri_decB (by omega) hge (tri_T (by omega) (by omega) (by omega))
              have hq1_ : 1 ≤ q2 := by omega
              refine WO_guardF rfl rfl hb33.h ?_
              refine WO_guardF rfl rfl hb33.h ?_
              refine WO_guardF rfl rfl hb33.h ?_
              refine WO_guardF rfl rfl hb33.h ?_
              refine WO_guardF rfl rfl hb33.h ?_
              refine WO_guardF rfl rfl hb33.h ?_
              refine WO_guardF rfl rfl hb33.h ?_
              refine WO_guardF rfl rfl hb33.h ?_
              refine WO_p (PS_pickT rfl hb33.h rfl) ?_
              refine WO_nil ?_
              refine thn_normal ?_
              refine W_condT rfl rfl ?_
              refine W_skip ?_
              refine thn_normal ?_
              refine W_block ?_
              refine W_seq ?_
              refine W_region rfl ?_
              refine WO_p (PS_move_int rfl) ?_
              refine WO_p (PS_sub_u64w rfl rfl) ?_
              rw [show (q2 - 1) % 18446744073709551616 = q2 - 1 by omega]
              refine WO_p (PS_assign_int rfl) ?_
              refine WO_nil ?_
              refine thn_normal ?_
              refine W_seq ?_
              refine W_region rfl ?_
              refine WO_p (PS_move_int rfl) ?_
              refine WO_p (PS_move_int rfl) ?_
              refine WO_p (PS_add_u64n rfl rfl (by omega) (by omega)) ?_
              refine WO_p (PS_assign_int rfl) ?_
              refine WO_nil ?_
              refine thn_normal ?_
              refine W_seq ?_
              refine W_region rfl ?_
              refine WO_p (PS_move_int rfl) ?_
              refine WO_p (PS_geq rfl rfl) ?_
              refine WO_nil ?_
              refine thn_normal ?_
              refine W_if rfl (fun hb35 => ?_) (fun hb35 => ?_)
              · have hb35p := hb35.h; try simp only [al_ete, al_dfn, Bool.not_eq_true', Bool.not_eq_false', al_ne, Bool.not_not, al_nn] at hb35p
                have hok := tri_big (y0 := Y % 4294967296) (b := 4294967296) (l := V % 4294967296) (tri_next he2) (by omega) (by omega) (by omega) (by omega) (by omega) (by omega)
                rw [y_split] at hok
                have hhi := hdec2
                refine W_exit ?_
                refine inBlk_exit_ne (by decide) ?_
                refine thn_exit ?_
                refine inBlk_exit ?_
                refine thn_normal ?_
                refine W_seq ?_
                refine W_region rfl ?_
                refine WO_p (PS_move_int rfl) ?_
                refine WO_p (PS_mul_u64w rfl rfl) ?_
                refine WO_p (PS_move_int rfl) ?_
                refine WO_p (PS_add_u64w rfl rfl) ?_
                refine WO_p (PS_move_int rfl) ?_
                refine WO_p (PS_mul_u64w rfl rfl) ?_
                refine WO_p (PS_move_int rfl) ?_
                refine WO_p (PS_add_u64w rfl rfl) ?_
                refine WO_p (PS_move_int rfl) ?_
                refine WO_p (PS_move_int rfl) ?_
                refine WO_p (PS_mul_u64w rfl rfl) ?_
                refine WO_p (PS_sub_u64w rfl rfl) ?_
                obtain ⟨R, hRe, hR, hRb⟩ := un21 (by omega) hok hhi
                rw [hRe]
                clear hRe
                refine WO_p (PS_move_int rfl) ?_
                refine WO_p (PS_shr_u64 (64 - n) rfl rfl (by omega) (by omega)) ?_
                refine WO_p (PS_assign_int rfl) ?_
                refine WO_p (PS_assign_int rfl) ?_
                refine WO_nil ?_
                refine thn_normal ?_
                refine W_ret ?_
                refine bodyQ_ret2 Hvac.results370 rfl rfl (.int _ _) (.int _ _) rfl rfl ?_
                first
                | (have hm := Int.mul_ediv_add_emod lo y
                   have hm2 := Int.emod_nonneg lo (show y ≠ 0 by omega)
                   have hm3 := Int.emod_lt_of_pos lo (show 0 < y by omega)
                   exact ⟨(by repeat (first | assumption | exact Ext.refl _ | refine Ext.alloc ?_ _ | refine Ext.drew ?_ | refine Ext.setB ?_ (by first | omega | (simp only [size_alloc, size_setB, size_drew]; omega)) _ | refine Ext.trans ?_ (by assumption))), _, _, rfl, quo_bd hl (by omega), ⟨hm2, hm3⟩, by rw [Int.mul_comm, hm]; omega⟩)
                | (have hfin := div_fin (pow2_pos (64 - n)) hYe hUV.1 hU2.1 hR hRb
                   have hqb : ∀ Q : Int, Q * y + R / 2 ^ (64 - n) = hi * 18446744073709551616 + lo → 0 ≤ Q → 0 ≤ Q ∧ Q ≤ 18446744073709551615 := by
                     intro Q hQ hQ0
                     refine ⟨hQ0, ?_⟩
                     rcases Int.lt_or_le 18446744073709551615 Q with h | h
                     · have h5 : 18446744073709551616 * y ≤ Q * y := Int.mul_le_mul_of_nonneg_right h hy.1
                       omega
                     · exact h
                   have hqb2 := hqb _ hfin.1 (by omega)
                   refine ⟨hE3, _, _, rfl, by omega, hfin.2, ?_⟩
                   rw [← hfin.1]
                   congr 2
                   omega)
              · have hb35p := hb35.h; try simp only [al_ete, al_dfn, Bool.not_eq_true', Bool.not_eq_false', al_ne, Bool.not_not, al_nn] at hb35p
                refine W_skip ?_
                refine inBlk_normal ?_
                refine thn_normal ?_
                exact ⟨m2 - 1, by omega, q2 - 1, _, q1, U3, hq1, hU2, by omega, ⟨by omega, by omega⟩, by omega, tri_next he2, hdec2, ⟨rfl, rfl, rfl, rfl, rfl, rfl, rfl, rfl, rfl, trivial⟩, hE3⟩
            · have hb33p := hb33.h; try simp only [al_ete, al_dfn, Bool.not_eq_true', Bool.not_eq_false', al_ne, Bool.not_not, al_nn] at hb33p
              have hlt9 := hb33p
              refine WO_guardT rfl rfl hb33.h ?_
              refine WO_p (PS_move_int rfl) ?_
              refine WO_guardT rfl rfl hb33.h ?_
              refine WO_p (PS_move_int rfl) ?_
              refine WO_guardT rfl rfl hb33.h ?_
              refine WO_p (PS_mul_u64w rfl rfl) ?_
              refine WO_guardT rfl rfl hb33.h ?_
              refine WO_p (PS_move_int rfl) ?_
              refine WO_guardT rfl rfl hb33.h ?_
              refine WO_p (PS_mul_u64w rfl rfl) ?_
              refine WO_guardT rfl rfl hb33.h ?_
              refine WO_p (PS_move_int rfl) ?_
              refine WO_guardT rfl rfl hb33.h ?_
              refine WO_p (PS_add_u64w rfl rfl) ?_
              refine WO_guardT rfl rfl hb33.h ?_
              refine WO_p (PS_gtr rfl rfl) ?_
              refine WO_p (PS_pickF rfl hb33.h rfl) ?_
              refine WO_nil ?_
              refine thn_normal ?_
              refine W_if rfl (fun hb37 => ?_) (fun hb37 => ?_)
              · have hb37p := hb37.h; try simp only [al_ete, al_dfn, Bool.not_eq_true', Bool.not_eq_false', al_ne, Bool.not_not, al_nn] at hb37p
                have hpb := mul_bd (a := q2) (b := Y % 4294967296) (A := 4294967297) (B := 4294967295) (by omega) (by omega) (by omega) (by omega)
                have hdec2 : U3 * 4294967296 + V % 4294967296 < (q2 - 1 + 1) * Y := by
                  first
                  | (have h9 := hb37p
                     try simp only [al_ete] at h9
                     have hpb2 := mul_bd (a := q2) (b := Y % 4294967296) (A := 4294967295) (B := 4294967295) (by omega) (by omega) (by omega) (by omega)
                     have := tri_dec (y0 := Y % 4294967296) (b := 4294967296) (l := V % 4294967296) he2 (by generalize q2 * (Y % 4294967296) = z at *; omega)
                     rw [y_split] at this
                     exact this)
                have hq1_ : 1 ≤ q2 := by
                  first
                  | omega
                  | (rcases Int.lt_or_le 0 q2 with h | h
                     · exact h
                     · have h8 : q2 = 0 := by omega
                       have h9 := hb37p
                       rw [h8] at h9
                       try simp only [al_ete] at h9
                       omega)
                refine W_skip ?_
                refine thn_normal ?_
                refine W_block ?_
                refine W_seq ?_
                refine W_region rfl ?_
                refine WO_p (PS_move_int rfl) ?_
                refine WO_p (PS_sub_u64w rfl rfl) ?_
                rw [show (q2 - 1) % 18446744073709551616 = q2 - 1 by omega]
                refine WO_p (PS_assign_int rfl) ?_
                refine WO_nil ?_
                refine thn_normal ?_
                refine W_seq ?_
                refine W_region rfl ?_
                refine WO_p (PS_move_int rfl) ?_
                refine WO_p (PS_move_int rfl) ?_
                refine WO_p (PS_add_u64n rfl rfl (by omega) (by omega)) ?_
                refine WO_p (PS_assign_int rfl) ?_
                refine WO_nil ?_
                refine thn_normal ?_
                refine W_seq ?_
                refine W_region rfl ?_
                refine WO_p (PS_move_int rfl) ?_
                refine WO_p (PS_geq rfl rfl) ?_
                refine WO_nil ?_
                refine thn_normal ?_
                refine W_if rfl (fun hb39 => ?_) (fun hb39 => ?_)
                · have hb39p := hb39.h; try simp only [al_ete, al_dfn, Bool.not_eq_true', Bool.not_eq_false', al_ne, Bool.not_not, al_nn] at hb39p
                  have hok := tri_big (y0 := Y % 4294967296) (b := 4294967296) (l := V % 4294967296) (tri_next he2) (by omega) (by omega) (by omega) (by omega) (by omega) (by omega)
                  rw [y_split] at hok
                  have hhi := hdec2
                  refine W_exit ?_
                  refine inBlk_exit_ne (by decide) ?_
                  refine thn_exit ?_
                  refine inBlk_exit ?_
                  refine thn_normal ?_
                  refine W_seq ?_
                  refine W_region rfl ?_
                  refine WO_p (PS_move_int rfl) ?_
                  refine WO_p (PS_mul_u64w rfl rfl) ?_
                  refine WO_p (PS_move_int rfl) ?_
                  refine WO_p (PS_add_u64w rfl rfl) ?_
                  refine WO_p (PS_move_int rfl) ?_
                  refine WO_p (PS_mul_u64w rfl rfl) ?_
                  refine WO_p (PS_move_int rfl) ?_
                  refine WO_p (PS_add_u64w rfl rfl) ?_
                  refine WO_p (PS_move_int rfl) ?_
                  refine WO_p (PS_move_int rfl) ?_
                  refine WO_p (PS_mul_u64w rfl rfl) ?_
                  refine WO_p (PS_sub_u64w rfl rfl) ?_
                  obtain ⟨R, hRe, hR, hRb⟩ := un21 (by omega) hok hhi
                  rw [hRe]
                  clear hRe
                  refine WO_p (PS_move_int rfl) ?_
                  refine WO_p (PS_shr_u64 (64 - n) rfl rfl (by omega) (by omega)) ?_
                  refine WO_p (PS_assign_int rfl) ?_
                  refine WO_p (PS_assign_int rfl) ?_
                  refine WO_nil ?_
                  refine thn_normal ?_
                  refine W_ret ?_
                  refine bodyQ_ret2 Hvac.results370 rfl rfl (.int _ _) (.int _ _) rfl rfl ?_
                  first
                  | (have hm := Int.mul_ediv_add_emod lo y
                     have hm2 := Int.emod_nonneg lo (show y ≠ 0 by omega)
                     have hm3 := Int.emod_lt_of_pos lo (show 0 < y by omega)
                     exact ⟨(by repeat (first | assumption | exact Ext.refl _ | refine Ext.alloc ?_ _ | refine Ext.drew ?_ | refine Ext.setB ?_ (by first | omega | (simp only [size_alloc, size_setB, size_drew]; omega)) _ | refine Ext.trans ?_ (by assumption))), _, _, rfl, quo_bd hl (by omega), ⟨hm2, hm3⟩, by rw [Int.mul_comm, hm]; omega⟩)
                  | (have hfin := div_fin (pow2_pos (64 - n)) hYe hUV.1 hU2.1 hR hRb
                     have hqb : ∀ Q : Int, Q * y + R / 2 ^ (64 - n) = hi * 18446744073709551616 + lo → 0 ≤ Q → 0 ≤ Q ∧ Q ≤ 18446744073709551615 := by
                       intro Q hQ hQ0
                       refine ⟨hQ0, ?_⟩
                       rcases Int.lt_or_le 18446744073709551615 Q with h | h
                       · have h5 : 18446744073709551616 * y ≤ Q * y := Int.mul_le_mul_of_nonneg_right h hy.1
                         omega
                       · exact h
                     have hqb2 := hqb _ hfin.1 (by omega)
                     refine ⟨hE3, _, _, rfl, by omega, hfin.2, ?_⟩
                     rw [← hfin.1]
                     congr 2
                     omega)
                · have hb39p := hb39.h; try simp only [al_ete, al_dfn, Bool.not_eq_true', Bool.not_eq_false', al_ne, Bool.not_not, al_nn] at hb39p
                  refine W_skip ?_
                  refine inBlk_normal ?_
                  refine thn_normal ?_
                  exact ⟨m2 - 1, by omega, q2 - 1, _, q1, U3, hq1, hU2, by omega, ⟨by omega, by omega⟩, by omega, tri_next he2, hdec2, ⟨rfl, rfl, rfl, rfl, rfl, rfl, rfl, rfl, rfl, trivial⟩, hE3⟩
              · have hb37p := hb37.h; try simp only [al_ete, al_dfn, Bool.not_eq_true', Bool.not_eq_false', al_ne, Bool.not_not, al_nn] at hb37p
                have h9 := hb37p
                try simp only [al_dfn] at h9
                have hpb2 := mul_bd (a := q2) (b := Y % 4294967296) (A := 4294967295) (B := 4294967295) (by omega) (by omega) (by omega) (by omega)
                have hok := tri_ok (y0 := Y % 4294967296) (b := 4294967296) (l := V % 4294967296) he2 (by generalize q2 * (Y % 4294967296) = z at *; omega)
                rw [y_split] at hok
                have hhi := hT2
                refine W_exit ?_
                refine thn_exit ?_
                refine thn_exit ?_
                refine inBlk_exit ?_
                refine thn_normal ?_
                refine W_seq ?_
                refine W_region rfl ?_
                refine WO_p (PS_move_int rfl) ?_
                refine WO_p (PS_mul_u64w rfl rfl) ?_
                refine WO_p (PS_move_int rfl) ?_
                refine WO_p (PS_add_u64w rfl rfl) ?_
                refine WO_p (PS_move_int rfl) ?_
                refine WO_p (PS_mul_u64w rfl rfl) ?_
                refine WO_p (PS_move_int rfl) ?_
                refine WO_p (PS_add_u64w rfl rfl) ?_
                refine WO_p (PS_move_int rfl) ?_
                refine WO_p (PS_move_int rfl) ?_
                refine WO_p (PS_mul_u64w rfl rfl) ?_
                refine WO_p (PS_sub_u64w rfl rfl) ?_
                obtain ⟨R, hRe, hR, hRb⟩ := un21 (by omega) hok hhi
                rw [hRe]
                clear hRe
                refine WO_p (PS_move_int rfl) ?_
                refine WO_p (PS_shr_u64 (64 - n) rfl rfl (by omega) (by omega)) ?_
                refine WO_p (PS_assign_int rfl) ?_
                refine WO_p (PS_assign_int rfl) ?_
                refine WO_nil ?_
                refine thn_normal ?_
                refine W_ret ?_
                refine bodyQ_ret2 Hvac.results370 rfl rfl (.int _ _) (.int _ _) rfl rfl ?_
                first
                | (have hm := Int.mul_ediv_add_emod lo y
                   have hm2 := Int.emod_nonneg lo (show y ≠ 0 by omega)
                   have hm3 := Int.emod_lt_of_pos lo (show 0 < y by omega)
                   exact ⟨(by repeat (first | assumption | exact Ext.refl _ | refine Ext.alloc ?_ _ | refine Ext.drew ?_ | refine Ext.setB ?_ (by first | omega | (simp only [size_alloc, size_setB, size_drew]; omega)) _ | refine Ext.trans ?_ (by assumption))), _, _, rfl, quo_bd hl (by omega), ⟨hm2, hm3⟩, by rw [Int.mul_comm, hm]; omega⟩)
                | (have hfin := div_fin (pow2_pos (64 - n)) hYe hUV.1 hU2.1 hR hRb
                   have hqb : ∀ Q : Int, Q * y + R / 2 ^ (64 - n) = hi * 18446744073709551616 + lo → 0 ≤ Q → 0 ≤ Q ∧ Q ≤ 18446744073709551615 := by
                     intro Q hQ hQ0
                     refine ⟨hQ0, ?_⟩
                     rcases Int.lt_or_le 18446744073709551615 Q with h | h
                     · have h5 : 18446744073709551616 * y ≤ Q * y := Int.mul_le_mul_of_nonneg_right h hy.1
                       omega
                     · exact h
                   have hqb2 := hqb _ hfin.1 (by omega)
                   refine ⟨hE3, _, _, rfl, by omega, hfin.2, ?_⟩
                   rw [← hfin.1]
                   congr 2
                   omega)

set_option maxRecDepth 10000 in
theorem div64_ex (hi lo y : Int) (w : World) (hh : 0 ≤ hi ∧ hi ≤ 18446744073709551615) (hl : 0 ≤ lo ∧ lo ≤ 18446744073709551615) (hy : 0 ≤ y ∧ y ≤ 18446744073709551615) : Ret Hvac.prog 337 #[.int .u64 hi, .int .u64 lo, .int .u64 y] w fun u w' => Ext w w' ∧ ∃ (q r : Int) (ok : Bool), u = .tuple #[.int .u64 q, .int .u64 r, .bool ok] ∧ (0 ≤ q ∧ q ≤ 18446744073709551615) ∧ (0 ≤ r ∧ r ≤ 18446744073709551615) ∧ (ok = true → r < y ∧ q * y + r = hi * 18446744073709551616 + lo) ∧ (ok = false → y ≤ hi) := by
  refine Ret_of_W Hvac.func337 rfl rfl ?_
  refine W_seq ?_
  refine W_region rfl ?_
  refine WO_p (PS_assign_int rfl) ?_
  refine WO_p (PS_assign_int rfl) ?_
  refine WO_p (PS_assign_bool rfl) ?_
  refine WO_nil ?_
  refine thn_normal ?_
  refine W_seq ?_
  refine W_seq ?_
  refine W_region rfl ?_
  refine WO_p (PS_move_int rfl) ?_
  refine WO_p (PS_eql rfl rfl) ?_
  refine WO_p (PS_move_bool rfl) ?_
  refine WO_if (t := 11) rfl (fun hb2 => ?_) (fun hb2 => ?_)
  · have hb2p := hb2.h; try simp only [al_ete, al_dfn, Bool.not_eq_true', Bool.not_eq_false', al_ne, Bool.not_not, al_nn] at hb2p
    refine WO_guardF rfl rfl hb2.h ?_
    refine WO_guardF rfl rfl hb2.h ?_
    refine WO_guardF rfl rfl hb2.h ?_
    refine WO_p (PS_pickT rfl hb2.h rfl) ?_
    refine WO_nil ?_
    refine thn_normal ?_
    refine W_condT rfl rfl ?_
    refine W_seq ?_
    refine W_region rfl ?_
    refine WO_p (PS_assign_int rfl) ?_
    refine WO_p (PS_assign_int rfl) ?_
    refine WO_p (PS_assign_bool rfl) ?_
    refine WO_nil ?_
    refine thn_normal ?_
    refine W_ret ?_
    refine thn_ret ?_
    refine bodyQ_ret3 Hvac.results337 rfl rfl rfl (.int _ _) (.int _ _) (.bool _) rfl rfl rfl ?_
    first
    | exact ⟨(by repeat (first | assumption | exact Ext.refl _ | refine Ext.alloc ?_ _ | refine Ext.drew ?_ | refine Ext.setB ?_ (by first | omega | (simp only [size_alloc, size_setB, size_drew]; omega)) _ | refine Ext.trans ?_ (by assumption))), _, _, _, rfl, by omega, by omega, fun _ => ⟨by omega, by assumption⟩, fun h => (by cases h)⟩
    | exact ⟨(by repeat (first | assumption | exact Ext.refl _ | refine Ext.alloc ?_ _ | refine Ext.drew ?_ | refine Ext.setB ?_ (by first | omega | (simp only [size_alloc, size_setB, size_drew]; omega)) _ | refine Ext.trans ?_ (by assumption))), _, _, _, rfl, by omega, by omega, fun h => (by cases h), fun _ => by omega⟩
  · have hb2p := hb2.h; try simp only [al_ete, al_dfn, Bool.not_eq_true', Bool.not_eq_false', al_ne, Bool.not_not, al_nn] at hb2p
    refine WO_guardT rfl rfl hb2.h ?_
    refine WO_p (PS_move_int rfl) ?_
    refine WO_guardT rfl rfl hb2.h ?_
    refine WO_p (PS_move_int rfl) ?_
    refine WO_guardT rfl rfl hb2.h ?_
    refine WO_p (PS_geq rfl rfl) ?_
    refine WO_p (PS_pickF rfl hb2.h rfl) ?_
    refine WO_nil ?_
    refine thn_normal ?_
    refine W_if rfl (fun hb4 => ?_) (fun hb4 => ?_)
    · have hb4p := hb4.h; try simp only [al_ete, al_dfn, Bool.not_eq_true', Bool.not_eq_false', al_ne, Bool.not_not, al_nn] at hb4p
      refine W_seq ?_
      refine W_region rfl ?_
      refine WO_p (PS_assign_int rfl) ?_
      refine WO_p (PS_assign_int rfl) ?_
      refine WO_p (PS_assign_bool rfl) ?_
      refine WO_nil ?_
      refine thn_normal ?_
      refine W_ret ?_
      refine thn_ret ?_
      refine bodyQ_ret3 Hvac.results337 rfl rfl rfl (.int _ _) (.int _ _) (.bool _) rfl rfl rfl ?_
      first
      | exact ⟨(by repeat (first | assumption | exact Ext.refl _ | refine Ext.alloc ?_ _ | refine Ext.drew ?_ | refine Ext.setB ?_ (by first | omega | (simp only [size_alloc, size_setB, size_drew]; omega)) _ | refine Ext.trans ?_ (by assumption))), _, _, _, rfl, by omega, by omega, fun _ => ⟨by omega, by assumption⟩, fun h => (by cases h)⟩
      | exact ⟨(by repeat (first | assumption | exact Ext.refl _ | refine Ext.alloc ?_ _ | refine Ext.drew ?_ | refine Ext.setB ?_ (by first | omega | (simp only [size_alloc, size_setB, size_drew]; omega)) _ | refine Ext.trans ?_ (by assumption))), _, _, _, rfl, by omega, by omega, fun h => (by cases h), fun _ => by omega⟩
    · have hb4p := hb4.h; try simp only [al_ete, al_dfn, Bool.not_eq_true', Bool.not_eq_false', al_ne, Bool.not_not, al_nn] at hb4p
      refine W_skip ?_
      refine thn_normal ?_
      refine W_seq ?_
      refine W_region rfl ?_
      refine WO_p (PS_move_int rfl) ?_
      refine WO_p (PS_move_int rfl) ?_
      refine WO_p (PS_move_int rfl) ?_
      refine WO_call Hvac.call370 (by rfl) (Ret.mono (div64b_ex _ _ _ _ (by omega) (by omega) (by omega) (by omega) (by omega)) ?_)
      rintro _ w370_4 ⟨hE370_4, q370_4, r370_4, rfl, hq370_4, hr370_4, he370_4⟩
      refine WO_p (PS_move_tuple rfl) ?_
      refine WO_p (PS_extract_int rfl rfl) ?_
      refine WO_p (PS_extract_int rfl rfl) ?_
      refine WO_p (PS_assign_int rfl) ?_
      refine WO_p (PS_assign_int rfl) ?_
      refine WO_nil ?_
      refine thn_normal ?_
      refine W_seq ?_
      refine W_region rfl ?_
      refine WO_p (PS_move_int rfl) ?_
      refine WO_p (PS_move_int rfl) ?_
      refine WO_p (PS_assign_int rfl) ?_
      refine WO_p (PS_assign_int rfl) ?_
      refine WO_p (PS_assign_bool rfl) ?_
      refine WO_nil ?_
      refine thn_normal ?_
      refine W_ret ?_
      refine bodyQ_ret3 Hvac.results337 rfl rfl rfl (.int _ _) (.int _ _) (.bool _) rfl rfl rfl ?_
      first
      | exact ⟨(by repeat (first | assumption | exact Ext.refl _ | refine Ext.alloc ?_ _ | refine Ext.drew ?_ | refine Ext.setB ?_ (by first | omega | (simp only [size_alloc, size_setB, size_drew]; omega)) _ | refine Ext.trans ?_ (by assumption))), _, _, _, rfl, by omega, by omega, fun _ => ⟨by omega, by assumption⟩, fun h => (by cases h)⟩
      | exact ⟨(by repeat (first | assumption | exact Ext.refl _ | refine Ext.alloc ?_ _ | refine Ext.drew ?_ | refine Ext.setB ?_ (by first | omega | (simp only [size_alloc, size_setB, size_drew]; omega)) _ | refine Ext.trans ?_ (by assumption))), _, _, _, rfl, by omega, by omega, fun h => (by cases h), fun _ => by omega⟩

set_option maxRecDepth 10000 in
theorem mulAdd_ex (x y s c : Int) (w : World) (hx : 0 ≤ x ∧ x ≤ 18446744073709551615) (hy : 0 ≤ y ∧ y ≤ 18446744073709551615) (hs : 0 ≤ s ∧ s ≤ 18446744073709551615) (hc : 0 ≤ c ∧ c ≤ 18446744073709551615) : Ret Hvac.prog 368 #[.int .u64 x, .int .u64 y, .int .u64 s, .int .u64 c] w fun u w' => Ext w w' ∧ ∃ lo hi : Int, u = .tuple #[.int .u64 lo, .int .u64 hi] ∧ (0 ≤ lo ∧ lo ≤ 18446744073709551615) ∧ (0 ≤ hi ∧ hi ≤ 18446744073709551615) ∧ lo + hi * 18446744073709551616 = x * y + s + c := by
  have hxy := mul_bd (A := 18446744073709551615) (B := 18446744073709551615) hx.1 hx.2 hy.1 hy.2
  refine Ret_of_W Hvac.func368 rfl rfl ?_
  refine W_seq ?_
  refine W_region rfl ?_
  refine WO_p (PS_assign_int rfl) ?_
  refine WO_p (PS_assign_int rfl) ?_
  refine WO_nil ?_
  refine thn_normal ?_
  refine W_seq ?_
  refine W_region rfl ?_
  refine WO_p (PS_move_int rfl) ?_
  refine WO_p (PS_move_int rfl) ?_
  refine WO_call Hvac.call143 (by rfl) (Ret.mono (mul64_ex _ _ _ (by omega) (by omega)) ?_)
  rintro _ _ ⟨h143_0, l143_0, rfl, hm143_0, hh143_0, hl143_0, rfl⟩
  refine WO_p (PS_move_tuple rfl) ?_
  refine WO_p (PS_extract_int rfl rfl) ?_
  refine WO_p (PS_extract_int rfl rfl) ?_
  refine WO_p (PS_assign_int rfl) ?_
  refine WO_p (PS_assign_int rfl) ?_
  refine WO_nil ?_
  refine thn_normal ?_
  refine W_seq ?_
  refine W_region rfl ?_
  refine WO_p (PS_move_int rfl) ?_
  refine WO_p (PS_move_int rfl) ?_
  refine WO_call Hvac.call144 (by rfl) (Ret.mono (add64_ex _ _ _ _ (by omega) (by omega) (by omega)) ?_)
  rintro _ _ ⟨s144_1, k144_1, rfl, hs144_1, hr144_1, hk144_1, rfl⟩
  refine WO_p (PS_move_tuple rfl) ?_
  refine WO_p (PS_extract_int rfl rfl) ?_
  refine WO_p (PS_extract_int rfl rfl) ?_
  refine WO_p (PS_assign_int rfl) ?_
  refine WO_p (PS_assign_int rfl) ?_
  refine WO_nil ?_
  refine thn_normal ?_
  refine W_seq ?_
  refine W_region rfl ?_
  refine WO_p (PS_move_int rfl) ?_
  refine WO_p (PS_move_int rfl) ?_
  refine WO_p (PS_add_u64w rfl rfl) ?_
  refine WO_p (PS_assign_int rfl) ?_
  refine WO_nil ?_
  refine thn_normal ?_
  refine W_seq ?_
  refine W_region rfl ?_
  refine WO_p (PS_move_int rfl) ?_
  refine WO_p (PS_move_int rfl) ?_
  refine WO_call Hvac.call144 (by rfl) (Ret.mono (add64_ex _ _ _ _ (by omega) (by omega) (by omega)) ?_)
  rintro _ _ ⟨s144_2, k144_2, rfl, hs144_2, hr144_2, hk144_2, rfl⟩
  refine WO_p (PS_move_tuple rfl) ?_
  refine WO_p (PS_extract_int rfl rfl) ?_
  refine WO_p (PS_extract_int rfl rfl) ?_
  refine WO_p (PS_assign_int rfl) ?_
  refine WO_p (PS_assign_int rfl) ?_
  refine WO_nil ?_
  refine thn_normal ?_
  refine W_seq ?_
  refine W_region rfl ?_
  refine WO_p (PS_move_int rfl) ?_
  refine WO_p (PS_move_int rfl) ?_
  refine WO_p (PS_move_int rfl) ?_
  refine WO_p (PS_add_u64w rfl rfl) ?_
  refine WO_p (PS_assign_int rfl) ?_
  refine WO_p (PS_assign_int rfl) ?_
  refine WO_nil ?_
  refine thn_normal ?_
  refine W_ret ?_
  refine bodyQ_ret2 Hvac.results368 rfl rfl (.int _ _) (.int _ _) rfl rfl ?_
  exact ⟨(by repeat (first | assumption | exact Ext.refl _ | refine Ext.alloc ?_ _ | refine Ext.drew ?_ | refine Ext.setB ?_ (by first | omega | (simp only [size_alloc, size_setB, size_drew]; omega)) _ | refine Ext.trans ?_ (by assumption))), _, _, rfl, by omega, by omega, by generalize x * y = z at *; omega⟩

end Go.Proofs.YgvacwGreat
