import Derived.Test.YgvacwGreatQb
namespace Go.Proofs.YgvacwGreat
set_option linter.unusedSimpArgs false
set_option linter.unusedVariables false
def ypow (a e : Nat) : Nat := a ^ e % 115792089237316195423570985008687907853269984665640564039457584007913129639936
def ysext (a b : Nat) : Nat := if a < 31 then (if Nat.testBit b (8 * a + 7) then b % 2 ^ (8 * a + 8) + (115792089237316195423570985008687907853269984665640564039457584007913129639936 - 2 ^ (8 * a + 8)) else b % 2 ^ (8 * a + 8)) else b
def ybits (o : Int) (a b : Nat) : Nat := if o = 22 then a &&& b else if o = 23 then a ||| b else if o = 24 then a ^^^ b else 115792089237316195423570985008687907853269984665640564039457584007913129639936 - 1 - a
def ybyte (a b : Nat) : Nat := if a < 32 then b / 256 ^ (31 - a) % 256 else 0
def yshift (o : Int) (a b : Nat) : Nat := if o = 27 then b * 2 ^ min a 256 % 115792089237316195423570985008687907853269984665640564039457584007913129639936 else if o = 29 ∧ yisn b = true then 115792089237316195423570985008687907853269984665640564039457584007913129639936 - 1 - (115792089237316195423570985008687907853269984665640564039457584007913129639936 - 1 - b) / 2 ^ min a 256 else b / 2 ^ min a 256
theorem ypow_step (a q : Nat) : a ^ q % 115792089237316195423570985008687907853269984665640564039457584007913129639936 * (a ^ q % 115792089237316195423570985008687907853269984665640564039457584007913129639936) % 115792089237316195423570985008687907853269984665640564039457584007913129639936 = a ^ (2 * q) % 115792089237316195423570985008687907853269984665640564039457584007913129639936 := by
  rw [← Nat.mul_mod, ← Nat.pow_add]; congr 2; omega
theorem ypow_step1 (a q : Nat) : a ^ (2 * q) % 115792089237316195423570985008687907853269984665640564039457584007913129639936 * a % 115792089237316195423570985008687907853269984665640564039457584007913129639936 = a ^ (2 * q + 1) % 115792089237316195423570985008687907853269984665640564039457584007913129639936 := by
  rw [Nat.pow_succ, Nat.mul_mod, Nat.mod_mod, ← Nat.mul_mod]
theorem half_step {e i : Nat} (hi : 0 < i) : e / 2 ^ (i - 1) = 2 * (e / 2 ^ i) + (if Nat.testBit e (i - 1) then 1 else 0) := by
  obtain ⟨k, rfl⟩ : ∃ k, i = k + 1 := ⟨i - 1, by omega⟩
  rw [Nat.add_sub_cancel, tb_dec, Nat.pow_succ, ← Nat.div_div_eq_div_mul]
  generalize e / 2 ^ k = z
  by_cases h : z % 2 = 1
  · simp [h]; omega
  · simp [h]; omega
theorem tb_dv {L : List Int} (h : ∀ x ∈ L, 0 ≤ x ∧ x ≤ 255) (k : Nat) : Nat.testBit (dv L) k = Nat.testBit (L.getD (k / 8) 0).toNat (k % 8) := by
  have hb := bit_at h k
  have hg := gd_by h (k / 8)
  rw [tb_dec, tb_dec]
  obtain ⟨q, hq⟩ : ∃ q : Nat, L.getD (k / 8) 0 = (q : Int) := ⟨(L.getD (k / 8) 0).toNat, by omega⟩
  rw [hq] at hb ⊢
  rw [Int.toNat_natCast]
  have : (((q / 2 ^ (k % 8) % 2 : Nat)) : Int) = ((dv L / 2 ^ k % 2 : Nat) : Int) := by
    rw [← hb, Int.natCast_emod, Int.natCast_ediv, Int.natCast_pow]; rfl
  refine al_dd.2 ?_
  omega
theorem bAnd8_nat {a b : Int} (ha : 0 ≤ a) (ha' : a ≤ 255) (hb : 0 ≤ b) (hb' : b ≤ 255) : bAnd8 a b = ((a.toNat &&& b.toNat : Nat) : Int) := by
  unfold bAnd8; rw [BitVec.toNat_and, ofInt_toNat 8 a ha (by omega), ofInt_toNat 8 b hb (by omega)]
theorem bXor8_nat {a b : Int} (ha : 0 ≤ a) (ha' : a ≤ 255) (hb : 0 ≤ b) (hb' : b ≤ 255) : bXor8 a b = ((a.toNat ^^^ b.toNat : Nat) : Int) := by
  unfold bXor8; rw [BitVec.toNat_xor, ofInt_toNat 8 a ha (by omega), ofInt_toNat 8 b hb (by omega)]
/-- one digit -/
def bz (o x y : Int) : Int := if o = 22 then bAnd8 x y else if o = 23 then bOr8 x y else if o = 24 then bXor8 x y else bXor8 255 x
theorem bz_bd (o x y : Int) : 0 ≤ bz o x y ∧ bz o x y ≤ 255 := by
  unfold bz; split; exact bAnd8_bd _ _; split; exact bOr8_bd _ _; split <;> exact bXor8_bd _ _
theorem bz_dv {o : Int} {a b : Nat} {M : List Int} (ho : o = 22 ∨ o = 23 ∨ o = 24 ∨ o = 25) (ha : sz a ≤ 32) (hb : sz b ≤ 32) (hM : By M 32) (hd : ∀ q, q < 32 → M.getD q 0 = bz o ((dg a).getD q 0) ((dg b).getD q 0)) : dv M = ybits o a b := by
  refine Nat.eq_of_testBit_eq fun k => ?_
  rw [tb_dv hM.2]
  have ta := tb_dv (dg_by a) k
  have tb := tb_dv (dg_by b) k
  rw [dv_dg] at ta tb
  have ga := gd_by (dg_by a) (k / 8)
  have gb := gd_by (dg_by b) (k / 8)
  by_cases hk : k / 8 < 32
  · rw [hd _ hk]
    unfold bz ybits
    rcases ho with rfl | rfl | rfl | rfl
    · rw [if_pos rfl, if_pos rfl, bAnd8_nat ga.1 ga.2 gb.1 gb.2, Int.toNat_natCast, Nat.testBit_and, Nat.testBit_and, ta, tb]
    · rw [if_neg (by decide), if_pos rfl, if_neg (by decide), if_pos rfl, bOr8_nat ga.1 ga.2 gb.1 gb.2, Int.toNat_natCast, Nat.testBit_or, Nat.testBit_or, ta, tb]
    · rw [if_neg (by decide), if_neg (by decide), if_pos rfl, if_neg (by decide), if_neg (by decide), if_pos rfl, bXor8_nat ga.1 ga.2 gb.1 gb.2, Int.toNat_natCast, Nat.testBit_xor, Nat.testBit_xor, ta, tb]
    · rw [if_neg (by decide), if_neg (by decide), if_neg (by decide), if_neg (by decide), if_neg (by decide), if_neg (by decide), bXor8_nat (by decide) (by decide) ga.1 ga.2, Int.toNat_natCast, Nat.testBit_xor]
      have h1 : 115792089237316195423570985008687907853269984665640564039457584007913129639936 - 1 - a = 2 ^ 256 - (a + 1) := by rw [p256]; omega
      rw [h1, Nat.testBit_two_pow_sub_succ (by rw [p256]; exact sz_lt256.2 ha), ta]
      have h2 : Nat.testBit (255 : Int).toNat (k % 8) = true := by
        have hr : k % 8 < 8 := Nat.mod_lt _ (by decide)
        generalize k % 8 = r at *
        match r, hr with
        | 0, _ => decide
        | 1, _ => decide
        | 2, _ => decide
        | 3, _ => decide
        | 4, _ => decide
        | 5, _ => decide
        | 6, _ => decide
        | 7, _ => decide
      rw [h2, al_et (by omega)]
      simp
  · rw [gd_ge (by rw [hM.1]; omega)]
    have za : Nat.testBit a k = false := by rw [ta, gd_ge (by rw [dg_len]; omega)]; simp
    have zb : Nat.testBit b k = false := by rw [tb, gd_ge (by rw [dg_len]; omega)]; simp
    unfold ybits
    rcases ho with rfl | rfl | rfl | rfl
    · rw [if_pos rfl, Nat.testBit_and, za]; simp
    · rw [if_neg (by decide), if_pos rfl, Nat.testBit_or, za, zb]; simp
    · rw [if_neg (by decide), if_neg (by decide), if_pos rfl, Nat.testBit_xor, za, zb]; simp
    · rw [if_neg (by decide), if_neg (by decide), if_neg (by decide)]
      have h1 : 115792089237316195423570985008687907853269984665640564039457584007913129639936 - 1 - a = 2 ^ 256 - (a + 1) := by rw [p256]; omega
      rw [h1, Nat.testBit_two_pow_sub_succ (by rw [p256]; exact sz_lt256.2 ha), al_ef (by omega)]
      simp
theorem sz_m256sub (a : Nat) : sz (115792089237316195423570985008687907853269984665640564039457584007913129639936 - 1 - a) ≤ 32 := sz256 (by omega)
theorem ybits_sz {o : Int} {a b : Nat} (ha : sz a ≤ 32) (hb : sz b ≤ 32) : sz (ybits o a b) ≤ 32 := by
  have h1 := sz_lt256.2 ha
  have h2 := sz_lt256.2 hb
  unfold ybits
  split
  · exact sz256 (by rw [← p256] at *; exact Nat.and_lt_two_pow _ h2)
  · split
    · exact sz256 (by rw [← p256] at *; exact Nat.or_lt_two_pow h1 h2)
    · split
      · exact sz256 (by rw [← p256] at *; exact Nat.xor_lt_two_pow h1 h2)
      · exact sz_m256sub a

set_option maxRecDepth 10000 in
set_option maxHeartbeats 4000000 in
theorem power_spec [Om] (w : World) (hO : OmB w) (ap : Option Addr) (an acY a : Nat) (ha : NN w (ap, an, acY) a) (za : sz a ≤ 300) (ep : Option Addr) (en ec e : Nat) (he : NN w (ep, en, ec) e) (ze : sz e ≤ 300) (he32 : sz e ≤ 32) : Ret Hvac.prog 306 #[.slice ap an acY, .slice ep en ec] w fun u w' => Ext w w' ∧ ∃ s' : SV, u = .slice s'.1 s'.2.1 s'.2.2 ∧ NN w' s' (ypow a e) := by
  have hen := he.szl
  refine Ret_of_W Hvac.func306 rfl rfl ?_
  refine W_seq ?_
  refine W_region rfl ?_
  refine WO_p (PS_assign_slice rfl) ?_
  refine WO_nil ?_
  refine thn_normal ?_
  refine W_seq ?_
  refine W_region rfl ?_
  refine WO_buildSliceV (.int _ _) Hvac.runUnderlying92 Hvac.sizeOf5 Hvac.zeroValue5 rfl rfl (by decide) (by decide) ?_
  refine WO_p (PS_assign_slice rfl) ?_
  refine WO_nil ?_
  refine thn_normal ?_
  refine W_seq ?_
  refine W_seq ?_
  refine W_region rfl ?_
  refine WO_p (PS_move_slice rfl) ?_
  refine WO_p (PS_lenS Hvac.runUnderlying92 rfl) ?_
  refine WO_p (PS_min rfl rfl) ?_
  refine WO_p (PS_mul_i64n rfl rfl (by omega) (by omega)) ?_
  refine WO_p (PS_assign_int rfl) ?_
  refine WO_nil ?_
  refine thn_normal ?_
  refine W_block ?_
  refine W_loopN (fun k ρ w' => ∃ (i : Nat) (s : SV), i = k ∧ i ≤ 8 * sz e ∧ Fr [(0, .slice ap an acY), (1, .slice ep en ec), (5, .slice s.1 s.2.1 s.2.2), (6, .int .i64 i)] ρ ∧ Ext w w' ∧ NN w' s (a ^ (e / 2 ^ i) % 115792089237316195423570985008687907853269984665640564039457584007913129639936)) (8 * sz e) ?_ ?_
  · refine ⟨8 * sz e, (some ⟨_, 0, none⟩, 1, 1), rfl, Nat.le_refl _, ⟨rfl, rfl, rfl, congrArg (Value.int .i64) (by rw [hen]; split <;> omega), trivial⟩, (by repeat (first | assumption | exact Ext.refl _ | refine Ext.alloc ?_ _ | refine Ext.drew ?_ | refine Ext.setB ?_ (by first | omega | (simp only [size_alloc, size_setB, size_drew]; omega)) _ | refine Ext.trans ?_ (by assumption))), ?_⟩
    rw [div_sz, Nat.pow_zero]
    show NN _ _ 1
    unfold NN
    rw [dg_one]
    exact PB.newY (Hb.newY _ _) (hO.fresh (Nat.le_refl _)) (by decide) rfl
  intro k2 ρ2 w2 hI2
  obtain ⟨i, s, hik, hi8, hFr2, hE2, hP⟩ := hI2
  refine W_env _ hFr2 ?_
  have hz2 := hE2.1
  refine W_seq ?_
  refine W_seq ?_
  refine W_region rfl ?_
  refine WO_p (PS_move_int rfl) ?_
  refine WO_p (PS_gtr rfl rfl) ?_
  refine WO_nil ?_
  refine thn_normal ?_
  refine W_if rfl (fun hb2 => ?_) (fun hb2 => ?_)
  · have hb2p := hb2.h; try simp only [al_ete, al_dfn, Bool.not_eq_true', Bool.not_eq_false', al_ne, Bool.not_not, al_nn] at hb2p
    have hsP : sz (a ^ (e / 2 ^ i) % 115792089237316195423570985008687907853269984665640564039457584007913129639936) ≤ 32 := sz256 (Nat.mod_lt _ (by decide))
    refine W_skip ?_
    refine thn_normal ?_
    refine W_seq ?_
    refine W_block ?_
    refine W_seq ?_
    refine W_region rfl ?_
    refine WO_p (PS_move_slice rfl) ?_
    refine WO_p (PS_move_slice rfl) ?_
    refine WO_call Hvac.call26 (by rfl) (Ret.mono (nMul_spec (OmB.ext hO (by repeat (first | assumption | exact Ext.refl _ | refine Ext.alloc ?_ _ | refine Ext.drew ?_ | refine Ext.setB ?_ (by first | omega | (simp only [size_alloc, size_setB, size_drew]; omega)) _ | exact Ext.trans (by assumption) (by assumption) | refine Ext.trans ?_ (by assumption)))) (by first | exact NN.nil _ | assumption | exact NN.ext (by assumption) (by repeat (first | assumption | exact Ext.refl _ | refine Ext.alloc ?_ _ | refine Ext.drew ?_ | refine Ext.setB ?_ (by first | omega | (simp only [size_alloc, size_setB, size_drew]; omega)) _ | exact Ext.trans (by assumption) (by assumption) | refine Ext.trans ?_ (by assumption)))) (by first | exact NN.nil _ | assumption | exact NN.ext (by assumption) (by repeat (first | assumption | exact Ext.refl _ | refine Ext.alloc ?_ _ | refine Ext.drew ?_ | refine Ext.setB ?_ (by first | omega | (simp only [size_alloc, size_setB, size_drew]; omega)) _ | exact Ext.trans (by assumption) (by assumption) | refine Ext.trans ?_ (by assumption)))) (by first | assumption | omega | (rw [sz_zero]; omega)) (by first | assumption | omega | (rw [sz_zero]; omega))) ?_)
    rintro _ w26_2 ⟨hE26_2, s26_2, rfl, hN26_2⟩
    have hz26_2 := hE26_2.1
    try simp only [size_alloc, size_setB, size_drew] at hz26_2
    have hs26_2 := hN26_2.z_mul
    refine WO_call Hvac.call301 (by rfl) (Ret.mono (wrapped_spec _ (OmB.ext hO (by repeat (first | assumption | exact Ext.refl _ | refine Ext.alloc ?_ _ | refine Ext.drew ?_ | refine Ext.setB ?_ (by first | omega | (simp only [size_alloc, size_setB, size_drew]; omega)) _ | exact Ext.trans (by assumption) (by assumption) | refine Ext.trans ?_ (by assumption)))) _ _ _ _ (by first | exact NN.nil _ | assumption | exact NN.ext (by assumption) (by repeat (first | assumption | exact Ext.refl _ | refine Ext.alloc ?_ _ | refine Ext.drew ?_ | refine Ext.setB ?_ (by first | omega | (simp only [size_alloc, size_setB, size_drew]; omega)) _ | exact Ext.trans (by assumption) (by assumption) | refine Ext.trans ?_ (by assumption)))) (by first | assumption | omega | (rw [sz_zero]; omega))) ?_)
    rintro _ w301_3 ⟨hE301_3, s301_3, rfl, hN301_3⟩
    have hz301_3 := hE301_3.1
    try simp only [size_alloc, size_setB, size_drew] at hz301_3
    have hs301_3 := hN301_3.z_m256
    refine WO_p (PS_assign_slice rfl) ?_
    refine WO_nil ?_
    refine thn_normal ?_
    refine W_seq ?_
    refine W_region rfl ?_
    refine WO_p (PS_move_slice rfl) ?_
    refine WO_p (PS_move_int rfl) ?_
    refine WO_p (PS_sub_i64n rfl rfl (by omega) (by omega)) ?_
    refine WO_p (PS_conv_u16n Hvac.runUnderlying3 Hvac.runUnderlying42 rfl (by omega) (by omega)) ?_
    rw [show (i : Int) - 1 = ((i - 1 : Nat) : Int) by omega]
    refine WO_call Hvac.call294 (by rfl) (Ret.mono (nBit_spec (i := i - 1) (by first | exact NN.nil _ | assumption | exact NN.ext (by assumption) (by repeat (first | assumption | exact Ext.refl _ | refine Ext.alloc ?_ _ | refine Ext.drew ?_ | refine Ext.setB ?_ (by first | omega | (simp only [size_alloc, size_setB, size_drew]; omega)) _ | exact Ext.trans (by assumption) (by assumption) | refine Ext.trans ?_ (by assumption)))) (by first | assumption | omega | (rw [sz_zero]; omega)) (by omega)) ?_)
    rintro _ w294_4 ⟨hE294_4, rfl⟩
    have hz294_4 := hE294_4.1
    try simp only [size_alloc, size_setB, size_drew] at hz294_4
    refine WO_nil ?_
    refine thn_normal ?_
    refine W_if rfl (fun hb6 => ?_) (fun hb6 => ?_)
    · have hb6p := hb6.h; try simp only [al_ete, al_dfn, Bool.not_eq_true', Bool.not_eq_false', al_ne, Bool.not_not, al_nn] at hb6p
      have hst := half_step (e := e) (i := i) (by omega)
      rw [if_pos hb6p] at hst
      refine W_region rfl ?_
      refine WO_p (PS_move_slice rfl) ?_
      refine WO_p (PS_move_slice rfl) ?_
      refine WO_call Hvac.call26 (by rfl) (Ret.mono (nMul_spec (OmB.ext hO (by repeat (first | assumption | exact Ext.refl _ | refine Ext.alloc ?_ _ | refine Ext.drew ?_ | refine Ext.setB ?_ (by first | omega | (simp only [size_alloc, size_setB, size_drew]; omega)) _ | exact Ext.trans (by assumption) (by assumption) | refine Ext.trans ?_ (by assumption)))) (by first | exact NN.nil _ | assumption | exact NN.ext (by assumption) (by repeat (first | assumption | exact Ext.refl _ | refine Ext.alloc ?_ _ | refine Ext.drew ?_ | refine Ext.setB ?_ (by first | omega | (simp only [size_alloc, size_setB, size_drew]; omega)) _ | exact Ext.trans (by assumption) (by assumption) | refine Ext.trans ?_ (by assumption)))) (by first | exact NN.nil _ | assumption | exact NN.ext (by assumption) (by repeat (first | assumption | exact Ext.refl _ | refine Ext.alloc ?_ _ | refine Ext.drew ?_ | refine Ext.setB ?_ (by first | omega | (simp only [size_alloc, size_setB, size_drew]; omega)) _ | exact Ext.trans (by assumption) (by assumption) | refine Ext.trans ?_ (by assumption)))) (by first | assumption | omega | (rw [sz_zero]; omega)) (by first | assumption | omega | (rw [sz_zero]; omega))) ?_)
      rintro _ w26_6 ⟨hE26_6, s26_6, rfl, hN26_6⟩
      have hz26_6 := hE26_6.1
      try simp only [size_alloc, size_setB, size_drew] at hz26_6
      have hs26_6 := hN26_6.z_mul
      refine WO_call Hvac.call301 (by rfl) (Ret.mono (wrapped_spec _ (OmB.ext hO (by repeat (first | assumption | exact Ext.refl _ | refine Ext.alloc ?_ _ | refine Ext.drew ?_ | refine Ext.setB ?_ (by first | omega | (simp only [size_alloc, size_setB, size_drew]; omega)) _ | exact Ext.trans (by assumption) (by assumption) | refine Ext.trans ?_ (by assumption)))) _ _ _ _ (by first | exact NN.nil _ | assumption | exact NN.ext (by assumption) (by repeat (first | assumption | exact Ext.refl _ | refine Ext.alloc ?_ _ | refine Ext.drew ?_ | refine Ext.setB ?_ (by first | omega | (simp only [size_alloc, size_setB, size_drew]; omega)) _ | exact Ext.trans (by assumption) (by assumption) | refine Ext.trans ?_ (by assumption)))) (by first | assumption | omega | (rw [sz_zero]; omega))) ?_)
      rintro _ w301_7 ⟨hE301_7, s301_7, rfl, hN301_7⟩
      have hz301_7 := hE301_7.1
      try simp only [size_alloc, size_setB, size_drew] at hz301_7
      have hs301_7 := hN301_7.z_m256
      refine WO_p (PS_assign_slice rfl) ?_
      refine WO_nil ?_
      refine inBlk_normal ?_
      refine thn_normal ?_
      refine W_region rfl ?_
      refine WO_p (PS_move_int rfl) ?_
      refine WO_p (PS_sub_i64n rfl rfl (by omega) (by omega)) ?_
      refine WO_p (PS_assign_int rfl) ?_
      refine WO_nil ?_
      refine thn_normal ?_
      first
      | (refine ⟨k2 - 1, by omega, i - 1, _, by omega, by omega, ⟨rfl, rfl, rfl, congrArg (Value.int .i64) (by omega), trivial⟩, (by repeat (first | assumption | exact Ext.refl _ | refine Ext.alloc ?_ _ | refine Ext.drew ?_ | refine Ext.setB ?_ (by first | omega | (simp only [size_alloc, size_setB, size_drew]; omega)) _ | refine Ext.trans ?_ (by assumption))), ?_⟩
         rw [hst, ← ypow_step1, ← ypow_step]; first | assumption | exact NN.ext (by assumption) (by repeat (first | assumption | exact Ext.refl _ | refine Ext.alloc ?_ _ | refine Ext.drew ?_ | refine Ext.setB ?_ (by first | omega | (simp only [size_alloc, size_setB, size_drew]; omega)) _ | refine Ext.trans ?_ (by assumption))))
      | (refine ⟨k2 - 1, by omega, i - 1, _, by omega, by omega, ⟨rfl, rfl, rfl, congrArg (Value.int .i64) (by omega), trivial⟩, (by repeat (first | assumption | exact Ext.refl _ | refine Ext.alloc ?_ _ | refine Ext.drew ?_ | refine Ext.setB ?_ (by first | omega | (simp only [size_alloc, size_setB, size_drew]; omega)) _ | refine Ext.trans ?_ (by assumption))), ?_⟩
         rw [hst, Nat.add_zero, ← ypow_step]; first | assumption | exact NN.ext (by assumption) (by repeat (first | assumption | exact Ext.refl _ | refine Ext.alloc ?_ _ | refine Ext.drew ?_ | refine Ext.setB ?_ (by first | omega | (simp only [size_alloc, size_setB, size_drew]; omega)) _ | refine Ext.trans ?_ (by assumption))))
    · have hb6p := hb6.h; try simp only [al_ete, al_dfn, Bool.not_eq_true', Bool.not_eq_false', al_ne, Bool.not_not, al_nn] at hb6p
      have hst := half_step (e := e) (i := i) (by omega)
      rw [if_neg (by rw [hb6p]; decide)] at hst
      refine W_skip ?_
      refine inBlk_normal ?_
      refine thn_normal ?_
      refine W_region rfl ?_
      refine WO_p (PS_move_int rfl) ?_
      refine WO_p (PS_sub_i64n rfl rfl (by omega) (by omega)) ?_
      refine WO_p (PS_assign_int rfl) ?_
      refine WO_nil ?_
      refine thn_normal ?_
      first
      | (refine ⟨k2 - 1, by omega, i - 1, _, by omega, by omega, ⟨rfl, rfl, rfl, congrArg (Value.int .i64) (by omega), trivial⟩, (by repeat (first | assumption | exact Ext.refl _ | refine Ext.alloc ?_ _ | refine Ext.drew ?_ | refine Ext.setB ?_ (by first | omega | (simp only [size_alloc, size_setB, size_drew]; omega)) _ | refine Ext.trans ?_ (by assumption))), ?_⟩
         rw [hst, ← ypow_step1, ← ypow_step]; first | assumption | exact NN.ext (by assumption) (by repeat (first | assumption | exact Ext.refl _ | refine Ext.alloc ?_ _ | refine Ext.drew ?_ | refine Ext.setB ?_ (by first | omega | (simp only [size_alloc, size_setB, size_drew]; omega)) _ | refine Ext.trans ?_ (by assumption))))
      | (refine ⟨k2 - 1, by omega, i - 1, _, by omega, by omega, ⟨rfl, rfl, rfl, congrArg (Value.int .i64) (by omega), trivial⟩, (by repeat (first | assumption | exact Ext.refl _ | refine Ext.alloc ?_ _ | refine Ext.drew ?_ | refine Ext.setB ?_ (by first | omega | (simp only [size_alloc, size_setB, size_drew]; omega)) _ | refine Ext.trans ?_ (by assumption))), ?_⟩
         rw [hst, Nat.add_zero, ← ypow_step]; first | assumption | exact NN.ext (by assumption) (by repeat (first | assumption | exact Ext.refl _ | refine Ext.alloc ?_ _ | refine Ext.drew ?_ | refine Ext.setB ?_ (by first | omega | (simp only [size_alloc, size_setB, size_drew]; omega)) _ | refine Ext.trans ?_ (by assumption))))
  · have hb2p := hb2.h; try simp only [al_ete, al_dfn, Bool.not_eq_true', Bool.not_eq_false', al_ne, Bool.not_not, al_nn] at hb2p
    refine W_exit ?_
    refine thn_exit ?_
    refine thn_exit ?_
    refine inBlk_exit ?_
    refine thn_normal ?_
    refine W_seq ?_
    refine W_region rfl ?_
    refine WO_p (PS_move_slice rfl) ?_
    refine WO_p (PS_assign_slice rfl) ?_
    refine WO_nil ?_
    refine thn_normal ?_
    refine W_ret ?_
    refine bodyQ_ret1 Hvac.results306 rfl (.slice _ _ _) rfl ?_
    have hi0 : i = 0 := by omega
    rw [hi0, Nat.pow_zero, Nat.div_one] at hP
    exact ⟨(by repeat (first | assumption | exact Ext.refl _ | refine Ext.alloc ?_ _ | refine Ext.drew ?_ | refine Ext.setB ?_ (by first | omega | (simp only [size_alloc, size_setB, size_drew]; omega)) _ | refine Ext.trans ?_ (by assumption))), s, rfl, hP⟩

set_option maxRecDepth 10000 in
set_option maxHeartbeats 4000000 in
theorem signExtended_spec [Om] (w : World) (hO : OmB w) (ap : Option Addr) (an acY a : Nat) (ha : NN w (ap, an, acY) a) (za : sz a ≤ 1000) (bp : Option Addr) (bn bc b : Nat) (hb : NN w (bp, bn, bc) b) (zb : sz b ≤ 1000) : Ret Hvac.prog 307 #[.slice ap an acY, .slice bp bn bc] w fun u w' => Ext w w' ∧ ∃ s' : SV, u = .slice s'.1 s'.2.1 s'.2.2 ∧ NN w' s' (ysext a b) := by
  refine Ret_of_W Hvac.func307 rfl rfl ?_
  refine W_seq ?_
  refine W_region rfl ?_
  refine WO_p (PS_assign_slice rfl) ?_
  refine WO_nil ?_
  refine thn_normal ?_
  refine W_seq ?_
  refine W_region rfl ?_
  refine WO_p (PS_move_slice rfl) ?_
  refine WO_call Hvac.call101 (by rfl) (Ret.mono (nU64_spec (by first | exact NN.nil _ | assumption | exact NN.ext (by assumption) (by repeat (first | assumption | exact Ext.refl _ | refine Ext.alloc ?_ _ | refine Ext.drew ?_ | refine Ext.setB ?_ (by first | omega | (simp only [size_alloc, size_setB, size_drew]; omega)) _ | exact Ext.trans (by assumption) (by assumption) | refine Ext.trans ?_ (by assumption)))) (by first | assumption | omega | (rw [sz_zero]; omega))) ?_)
  rintro _ w101_0 ⟨hE101_0, rfl⟩
  have hz101_0 := hE101_0.1
  try simp only [size_alloc, size_setB, size_drew] at hz101_0
  refine WO_p (PS_move_tuple rfl) ?_
  refine WO_p (PS_extract_int rfl rfl) ?_
  refine WO_p (PS_extract_bool rfl rfl) ?_
  refine WO_p (PS_assign_int rfl) ?_
  refine WO_p (PS_assign_bool rfl) ?_
  refine WO_nil ?_
  refine thn_normal ?_
  refine W_seq ?_
  refine W_seq ?_
  refine W_region rfl ?_
  refine WO_p (PS_move_bool rfl) ?_
  refine WO_p (PS_not rfl) ?_
  refine WO_p (PS_move_bool rfl) ?_
  refine WO_if (t := 20) rfl (fun hb4 => ?_) (fun hb4 => ?_)
  · have hb4p := hb4.h; try simp only [al_ete, al_dfn, Bool.not_eq_true', Bool.not_eq_false', al_ne, Bool.not_not, al_nn] at hb4p
    have hbig : ¬ a < 31 := by omega
    refine WO_guardF rfl rfl hb4.h ?_
    refine WO_guardF rfl rfl hb4.h ?_
    refine WO_p (PS_pickT rfl hb4.h rfl) ?_
    refine WO_nil ?_
    refine thn_normal ?_
    refine W_condT rfl rfl ?_
    refine W_seq ?_
    refine W_region rfl ?_
    refine WO_p (PS_move_slice rfl) ?_
    refine WO_call Hvac.call79 (by rfl) (Ret.mono (nNorm_spec (OmB.ext hO (by repeat (first | assumption | exact Ext.refl _ | refine Ext.alloc ?_ _ | refine Ext.drew ?_ | refine Ext.setB ?_ (by first | omega | (simp only [size_alloc, size_setB, size_drew]; omega)) _ | exact Ext.trans (by assumption) (by assumption) | refine Ext.trans ?_ (by assumption)))) (by first | exact NN.nil _ | assumption | exact NN.ext (by assumption) (by repeat (first | assumption | exact Ext.refl _ | refine Ext.alloc ?_ _ | refine Ext.drew ?_ | refine Ext.setB ?_ (by first | omega | (simp only [size_alloc, size_setB, size_drew]; omega)) _ | exact Ext.trans (by assumption) (by assumption) | refine Ext.trans ?_ (by assumption)))) (by first | assumption | omega | (rw [sz_zero]; omega))) ?_)
    rintro _ w79_4 ⟨hE79_4, s79_4, rfl, hN79_4⟩
    have hz79_4 := hE79_4.1
    try simp only [size_alloc, size_setB, size_drew] at hz79_4
    refine WO_p (PS_assign_slice rfl) ?_
    refine WO_nil ?_
    refine thn_normal ?_
    refine W_ret ?_
    refine thn_ret ?_
    refine bodyQ_ret1 Hvac.results307 rfl (.slice _ _ _) rfl ?_
    have hp0 : (2 : Nat) ^ (8 * a + 8) ≠ 0 := Nat.pos_iff_ne_zero.1 (Nat.pow_pos (by decide))
    try simp only [if_neg hp0] at *
    unfold ysext
    first
    | (rw [if_neg hbig]; exact ⟨(by repeat (first | assumption | exact Ext.refl _ | refine Ext.alloc ?_ _ | refine Ext.drew ?_ | refine Ext.setB ?_ (by first | omega | (simp only [size_alloc, size_setB, size_drew]; omega)) _ | refine Ext.trans ?_ (by assumption))), _, rfl, (by first | exact NN.nil _ | assumption | exact NN.ext (by assumption) (by repeat (first | assumption | exact Ext.refl _ | refine Ext.alloc ?_ _ | refine Ext.drew ?_ | refine Ext.setB ?_ (by first | omega | (simp only [size_alloc, size_setB, size_drew]; omega)) _ | refine Ext.trans ?_ (by assumption))))⟩)
    | (rw [if_pos hlt, if_neg htb]; exact ⟨(by repeat (first | assumption | exact Ext.refl _ | refine Ext.alloc ?_ _ | refine Ext.drew ?_ | refine Ext.setB ?_ (by first | omega | (simp only [size_alloc, size_setB, size_drew]; omega)) _ | refine Ext.trans ?_ (by assumption))), _, rfl, (by first | exact NN.nil _ | assumption | exact NN.ext (by assumption) (by repeat (first | assumption | exact Ext.refl _ | refine Ext.alloc ?_ _ | refine Ext.drew ?_ | refine Ext.setB ?_ (by first | omega | (simp only [size_alloc, size_setB, size_drew]; omega)) _ | refine Ext.trans ?_ (by assumption))))⟩)
    | (rw [if_pos hlt, if_pos htb]; exact ⟨(by repeat (first | assumption | exact Ext.refl _ | refine Ext.alloc ?_ _ | refine Ext.drew ?_ | refine Ext.setB ?_ (by first | omega | (simp only [size_alloc, size_setB, size_drew]; omega)) _ | refine Ext.trans ?_ (by assumption))), _, rfl, (by first | exact NN.nil _ | assumption | exact NN.ext (by assumption) (by repeat (first | assumption | exact Ext.refl _ | refine Ext.alloc ?_ _ | refine Ext.drew ?_ | refine Ext.setB ?_ (by first | omega | (simp only [size_alloc, size_setB, size_drew]; omega)) _ | refine Ext.trans ?_ (by assumption))))⟩)
  · have hb4p := hb4.h; try simp only [al_ete, al_dfn, Bool.not_eq_true', Bool.not_eq_false', al_ne, Bool.not_not, al_nn] at hb4p
    have hsm : a < 18446744073709551616 := by omega
    rw [if_pos hsm]
    refine WO_guardT rfl rfl hb4.h ?_
    refine WO_p (PS_move_int rfl) ?_
    refine WO_guardT rfl rfl hb4.h ?_
    refine WO_p (PS_geq rfl rfl) ?_
    refine WO_p (PS_pickF rfl hb4.h rfl) ?_
    refine WO_nil ?_
    refine thn_normal ?_
    refine W_if rfl (fun hb7 => ?_) (fun hb7 => ?_)
    · have hb7p := hb7.h; try simp only [al_ete, al_dfn, Bool.not_eq_true', Bool.not_eq_false', al_ne, Bool.not_not, al_nn] at hb7p
      have hbig : ¬ a < 31 := by omega
      refine W_seq ?_
      refine W_region rfl ?_
      refine WO_p (PS_move_slice rfl) ?_
      refine WO_call Hvac.call79 (by rfl) (Ret.mono (nNorm_spec (OmB.ext hO (by repeat (first | assumption | exact Ext.refl _ | refine Ext.alloc ?_ _ | refine Ext.drew ?_ | refine Ext.setB ?_ (by first | omega | (simp only [size_alloc, size_setB, size_drew]; omega)) _ | exact Ext.trans (by assumption) (by assumption) | refine Ext.trans ?_ (by assumption)))) (by first | exact NN.nil _ | assumption | exact NN.ext (by assumption) (by repeat (first | assumption | exact Ext.refl _ | refine Ext.alloc ?_ _ | refine Ext.drew ?_ | refine Ext.setB ?_ (by first | omega | (simp only [size_alloc, size_setB, size_drew]; omega)) _ | exact Ext.trans (by assumption) (by assumption) | refine Ext.trans ?_ (by assumption)))) (by first | assumption | omega | (rw [sz_zero]; omega))) ?_)
      rintro _ w79_7 ⟨hE79_7, s79_7, rfl, hN79_7⟩
      have hz79_7 := hE79_7.1
      try simp only [size_alloc, size_setB, size_drew] at hz79_7
      refine WO_p (PS_assign_slice rfl) ?_
      refine WO_nil ?_
      refine thn_normal ?_
      refine W_ret ?_
      refine thn_ret ?_
      refine bodyQ_ret1 Hvac.results307 rfl (.slice _ _ _) rfl ?_
      have hp0 : (2 : Nat) ^ (8 * a + 8) ≠ 0 := Nat.pos_iff_ne_zero.1 (Nat.pow_pos (by decide))
      try simp only [if_neg hp0] at *
      unfold ysext
      first
      | (rw [if_neg hbig]; exact ⟨(by repeat (first | assumption | exact Ext.refl _ | refine Ext.alloc ?_ _ | refine Ext.drew ?_ | refine Ext.setB ?_ (by first | omega | (simp only [size_alloc, size_setB, size_drew]; omega)) _ | refine Ext.trans ?_ (by assumption))), _, rfl, (by first | exact NN.nil _ | assumption | exact NN.ext (by assumption) (by repeat (first | assumption | exact Ext.refl _ | refine Ext.alloc ?_ _ | refine Ext.drew ?_ | refine Ext.setB ?_ (by first | omega | (simp only [size_alloc, size_setB, size_drew]; omega)) _ | refine Ext.trans ?_ (by assumption))))⟩)
      | (rw [if_pos hlt, if_neg htb]; exact ⟨(by repeat (first | assumption | exact Ext.refl _ | refine Ext.alloc ?_ _ | refine Ext.drew ?_ | refine Ext.setB ?_ (by first | omega | (simp only [size_alloc, size_setB, size_drew]; omega)) _ | refine Ext.trans ?_ (by assumption))), _, rfl, (by first | exact NN.nil _ | assumption | exact NN.ext (by assumption) (by repeat (first | assumption | exact Ext.refl _ | refine Ext.alloc ?_ _ | refine Ext.drew ?_ | refine Ext.setB ?_ (by first | omega | (simp only [size_alloc, size_setB, size_drew]; omega)) _ | refine Ext.trans ?_ (by assumption))))⟩)
      | (rw [if_pos hlt, if_pos htb]; exact ⟨(by repeat (first | assumption | exact Ext.refl _ | refine Ext.alloc ?_ _ | refine Ext.drew ?_ | refine Ext.setB ?_ (by first | omega | (simp only [size_alloc, size_setB, size_drew]; omega)) _ | refine Ext.trans ?_ (by assumption))), _, rfl, (by first | exact NN.nil _ | assumption | exact NN.ext (by assumption) (by repeat (first | assumption | exact Ext.refl _ | refine Ext.alloc ?_ _ | refine Ext.drew ?_ | refine Ext.setB ?_ (by first | omega | (simp only [size_alloc, size_setB, size_drew]; omega)) _ | refine Ext.trans ?_ (by assumption))))⟩)
    · have hb7p := hb7.h; try simp only [al_ete, al_dfn, Bool.not_eq_true', Bool.not_eq_false', al_ne, Bool.not_not, al_nn] at hb7p
      have hlt : a < 31 := by omega
      refine W_skip ?_
      refine thn_normal ?_
      refine W_seq ?_
      refine W_region rfl ?_
      refine WO_p (PS_move_int rfl) ?_
      refine WO_p (PS_mul_u64n rfl rfl (by omega) (by omega)) ?_
      first | refine WO_p (PS_add_u64n rfl rfl (by omega) (by omega)) ?_
      rw [show 8 * (a : Int) + 7 = ((8 * a + 7 : Nat) : Int) by omega]
      refine WO_p (PS_conv_u16n Hvac.runUnderlying26 Hvac.runUnderlying42 rfl (by omega) (by omega)) ?_
      refine WO_p (PS_assign_int rfl) ?_
      refine WO_nil ?_
      refine thn_normal ?_
      refine W_seq ?_
      refine W_region rfl ?_
      refine WO_p (PS_move_slice rfl) ?_
      refine WO_p (PS_move_int rfl) ?_
      refine WO_p (PS_add_u16n rfl rfl (by omega) (by omega)) ?_
      rw [show ((8 * a + 7 : Nat) : Int) + 1 = ((8 * a + 8 : Nat) : Int) by omega]
      refine WO_call Hvac.call355 (by rfl) (Ret.mono (nPow2_spec (OmB.ext hO (by repeat (first | assumption | exact Ext.refl _ | refine Ext.alloc ?_ _ | refine Ext.drew ?_ | refine Ext.setB ?_ (by first | omega | (simp only [size_alloc, size_setB, size_drew]; omega)) _ | exact Ext.trans (by assumption) (by assumption) | refine Ext.trans ?_ (by assumption)))) (by omega)) ?_)
      rintro _ w355_8 ⟨hE355_8, s355_8, rfl, hN355_8, hs355_8⟩
      have hz355_8 := hE355_8.1
      try simp only [size_alloc, size_setB, size_drew] at hz355_8
      refine WO_call Hvac.call225 (by rfl) (Ret.mono (nDiv_spec (OmB.ext hO (by repeat (first | assumption | exact Ext.refl _ | refine Ext.alloc ?_ _ | refine Ext.drew ?_ | refine Ext.setB ?_ (by first | omega | (simp only [size_alloc, size_setB, size_drew]; omega)) _ | exact Ext.trans (by assumption) (by assumption) | refine Ext.trans ?_ (by assumption)))) (by first | exact NN.nil _ | assumption | exact NN.ext (by assumption) (by repeat (first | assumption | exact Ext.refl _ | refine Ext.alloc ?_ _ | refine Ext.drew ?_ | refine Ext.setB ?_ (by first | omega | (simp only [size_alloc, size_setB, size_drew]; omega)) _ | exact Ext.trans (by assumption) (by assumption) | refine Ext.trans ?_ (by assumption)))) (by first | exact NN.nil _ | assumption | exact NN.ext (by assumption) (by repeat (first | assumption | exact Ext.refl _ | refine Ext.alloc ?_ _ | refine Ext.drew ?_ | refine Ext.setB ?_ (by first | omega | (simp only [size_alloc, size_setB, size_drew]; omega)) _ | exact Ext.trans (by assumption) (by assumption) | refine Ext.trans ?_ (by assumption)))) (by first | assumption | omega | (rw [sz_zero]; omega)) (by first | assumption | omega | (rw [sz_zero]; omega))) ?_)
      rintro _ w225_9 ⟨hE225_9, s225_9, r225_9, rfl, hN225_9, hM225_9⟩
      have hz225_9 := hE225_9.1
      try simp only [size_alloc, size_setB, size_drew] at hz225_9
      have hs225_9 := hN225_9.z_div
      have hr225_9 := hM225_9.z_mod
      refine WO_p (PS_move_tuple rfl) ?_
      refine WO_p (PS_extract_slice rfl rfl) ?_
      refine WO_p (PS_extract_slice rfl rfl) ?_
      refine WO_p (PS_extract_bool rfl rfl) ?_
      refine WO_p (PS_assign_slice rfl) ?_
      refine WO_p (PS_assign_slice rfl) ?_
      refine WO_p (PS_assign_bool rfl) ?_
      refine WO_nil ?_
      refine thn_normal ?_
      refine W_seq ?_
      refine W_seq ?_
      refine W_region rfl ?_
      refine WO_p (PS_move_slice rfl) ?_
      refine WO_p (PS_move_int rfl) ?_
      refine WO_call Hvac.call294 (by rfl) (Ret.mono (nBit_spec (by first | exact NN.nil _ | assumption | exact NN.ext (by assumption) (by repeat (first | assumption | exact Ext.refl _ | refine Ext.alloc ?_ _ | refine Ext.drew ?_ | refine Ext.setB ?_ (by first | omega | (simp only [size_alloc, size_setB, size_drew]; omega)) _ | exact Ext.trans (by assumption) (by assumption) | refine Ext.trans ?_ (by assumption)))) (by first | assumption | omega | (rw [sz_zero]; omega)) (by omega)) ?_)
      rintro _ w294_11 ⟨hE294_11, rfl⟩
      have hz294_11 := hE294_11.1
      try simp only [size_alloc, size_setB, size_drew] at hz294_11
      refine WO_p (PS_not rfl) ?_
      refine WO_nil ?_
      refine thn_normal ?_
      refine W_if rfl (fun hb15 => ?_) (fun hb15 => ?_)
      · have hb15p := hb15.h; try simp only [al_ete, al_dfn, Bool.not_eq_true', Bool.not_eq_false', al_ne, Bool.not_not, al_nn] at hb15p
        have htb : ¬ Nat.testBit b (8 * a + 7) = true := by simpa using hb15p
        refine W_seq ?_
        refine W_region rfl ?_
        refine WO_p (PS_move_slice rfl) ?_
        refine WO_p (PS_assign_slice rfl) ?_
        refine WO_nil ?_
        refine thn_normal ?_
        refine W_ret ?_
        refine thn_ret ?_
        refine bodyQ_ret1 Hvac.results307 rfl (.slice _ _ _) rfl ?_
        have hp0 : (2 : Nat) ^ (8 * a + 8) ≠ 0 := Nat.pos_iff_ne_zero.1 (Nat.pow_pos (by decide))
        try simp only [if_neg hp0] at *
        unfold ysext
        first
        | (rw [if_neg hbig]; exact ⟨(by repeat (first | assumption | exact Ext.refl _ | refine Ext.alloc ?_ _ | refine Ext.drew ?_ | refine Ext.setB ?_ (by first | omega | (simp only [size_alloc, size_setB, size_drew]; omega)) _ | refine Ext.trans ?_ (by assumption))), _, rfl, (by first | exact NN.nil _ | assumption | exact NN.ext (by assumption) (by repeat (first | assumption | exact Ext.refl _ | refine Ext.alloc ?_ _ | refine Ext.drew ?_ | refine Ext.setB ?_ (by first | omega | (simp only [size_alloc, size_setB, size_drew]; omega)) _ | refine Ext.trans ?_ (by assumption))))⟩)
        | (rw [if_pos hlt, if_neg htb]; exact ⟨(by repeat (first | assumption | exact Ext.refl _ | refine Ext.alloc ?_ _ | refine Ext.drew ?_ | refine Ext.setB ?_ (by first | omega | (simp only [size_alloc, size_setB, size_drew]; omega)) _ | refine Ext.trans ?_ (by assumption))), _, rfl, (by first | exact NN.nil _ | assumption | exact NN.ext (by assumption) (by repeat (first | assumption | exact Ext.refl _ | refine Ext.alloc ?_ _ | refine Ext.drew ?_ | refine Ext.setB ?_ (by first | omega | (simp only [size_alloc, size_setB, size_drew]; omega)) _ | refine Ext.trans ?_ (by assumption))))⟩)
        | (rw [if_pos hlt, if_pos htb]; exact ⟨(by repeat (first | assumption | exact Ext.refl _ | refine Ext.alloc ?_ _ | refine Ext.drew ?_ | refine Ext.setB ?_ (by first | omega | (simp only [size_alloc, size_setB, size_drew]; omega)) _ | refine Ext.trans ?_ (by assumption))), _, rfl, (by first | exact NN.nil _ | assumption | exact NN.ext (by assumption) (by repeat (first | assumption | exact Ext.refl _ | refine Ext.alloc ?_ _ | refine Ext.drew ?_ | refine Ext.setB ?_ (by first | omega | (simp only [size_alloc, size_setB, size_drew]; omega)) _ | refine Ext.trans ?_ (by assumption))))⟩)
      · have hb15p := hb15.h; try simp only [al_ete, al_dfn, Bool.not_eq_true', Bool.not_eq_false', al_ne, Bool.not_not, al_nn] at hb15p
        have htb : Nat.testBit b (8 * a + 7) = true := by simpa using hb15p
        refine W_skip ?_
        refine thn_normal ?_
        refine W_seq ?_
        refine W_region rfl ?_
        refine WO_call Hvac.call355 (by rfl) (Ret.mono (nPow2_spec (k := 256) (OmB.ext hO (by repeat (first | assumption | exact Ext.refl _ | refine Ext.alloc ?_ _ | refine Ext.drew ?_ | refine Ext.setB ?_ (by first | omega | (simp only [size_alloc, size_setB, size_drew]; omega)) _ | exact Ext.trans (by assumption) (by assumption) | refine Ext.trans ?_ (by assumption)))) (by omega)) ?_)
        rintro _ w9 ⟨hE9, s9, rfl, hN9, hs9⟩
        have hz9 := hE9.1
        try simp only [size_alloc, size_setB, size_drew] at hz9
        rw [p256] at hN9 hs9
        refine WO_p (PS_move_int rfl) ?_
        refine WO_p (PS_add_u16n rfl rfl (by omega) (by omega)) ?_
        rw [show ((8 * a + 7 : Nat) : Int) + 1 = ((8 * a + 8 : Nat) : Int) by omega]
        refine WO_call Hvac.call355 (by rfl) (Ret.mono (nPow2_spec (OmB.ext hO (by repeat (first | assumption | exact Ext.refl _ | refine Ext.alloc ?_ _ | refine Ext.drew ?_ | refine Ext.setB ?_ (by first | omega | (simp only [size_alloc, size_setB, size_drew]; omega)) _ | exact Ext.trans (by assumption) (by assumption) | refine Ext.trans ?_ (by assumption)))) (by omega)) ?_)
        rintro _ w355_16 ⟨hE355_16, s355_16, rfl, hN355_16, hs355_16⟩
        have hz355_16 := hE355_16.1
        try simp only [size_alloc, size_setB, size_drew] at hz355_16
        refine WO_call Hvac.call82 (by rfl) (Ret.mono (nSub_spec (OmB.ext hO (by repeat (first | assumption | exact Ext.refl _ | refine Ext.alloc ?_ _ | refine Ext.drew ?_ | refine Ext.setB ?_ (by first | omega | (simp only [size_alloc, size_setB, size_drew]; omega)) _ | exact Ext.trans (by assumption) (by assumption) | refine Ext.trans ?_ (by assumption)))) (by first | exact NN.nil _ | assumption | exact NN.ext (by assumption) (by repeat (first | assumption | exact Ext.refl _ | refine Ext.alloc ?_ _ | refine Ext.drew ?_ | refine Ext.setB ?_ (by first | omega | (simp only [size_alloc, size_setB, size_drew]; omega)) _ | exact Ext.trans (by assumption) (by assumption) | refine Ext.trans ?_ (by assumption)))) (by first | exact NN.nil _ | assumption | exact NN.ext (by assumption) (by repeat (first | assumption | exact Ext.refl _ | refine Ext.alloc ?_ _ | refine Ext.drew ?_ | refine Ext.setB ?_ (by first | omega | (simp only [size_alloc, size_setB, size_drew]; omega)) _ | exact Ext.trans (by assumption) (by assumption) | refine Ext.trans ?_ (by assumption)))) (by first | assumption | omega | (rw [sz_zero]; omega)) (by first | assumption | omega | (rw [sz_zero]; omega))) ?_)
        rintro _ w82_17 ⟨hE82_17, s82_17, rfl, hN82_17⟩
        have hz82_17 := hE82_17.1
        try simp only [size_alloc, size_setB, size_drew] at hz82_17
        have hs82_17 := hN82_17.z_sub
        refine WO_p (PS_move_tuple rfl) ?_
        refine WO_p (PS_extract_slice rfl rfl) ?_
        refine WO_p (PS_extract_bool rfl rfl) ?_
        refine WO_p (PS_assign_slice rfl) ?_
        refine WO_p (PS_assign_bool rfl) ?_
        refine WO_nil ?_
        refine thn_normal ?_
        refine W_seq ?_
        refine W_region rfl ?_
        refine WO_p (PS_move_slice rfl) ?_
        refine WO_p (PS_move_slice rfl) ?_
        refine WO_call Hvac.call24 (by rfl) (Ret.mono (nAdd_spec (OmB.ext hO (by repeat (first | assumption | exact Ext.refl _ | refine Ext.alloc ?_ _ | refine Ext.drew ?_ | refine Ext.setB ?_ (by first | omega | (simp only [size_alloc, size_setB, size_drew]; omega)) _ | exact Ext.trans (by assumption) (by assumption) | refine Ext.trans ?_ (by assumption)))) (by first | exact NN.nil _ | assumption | exact NN.ext (by assumption) (by repeat (first | assumption | exact Ext.refl _ | refine Ext.alloc ?_ _ | refine Ext.drew ?_ | refine Ext.setB ?_ (by first | omega | (simp only [size_alloc, size_setB, size_drew]; omega)) _ | exact Ext.trans (by assumption) (by assumption) | refine Ext.trans ?_ (by assumption)))) (by first | exact NN.nil _ | assumption | exact NN.ext (by assumption) (by repeat (first | assumption | exact Ext.refl _ | refine Ext.alloc ?_ _ | refine Ext.drew ?_ | refine Ext.setB ?_ (by first | omega | (simp only [size_alloc, size_setB, size_drew]; omega)) _ | exact Ext.trans (by assumption) (by assumption) | refine Ext.trans ?_ (by assumption)))) (by first | assumption | omega | (rw [sz_zero]; omega)) (by first | assumption | omega | (rw [sz_zero]; omega))) ?_)
        rintro _ w24_19 ⟨hE24_19, s24_19, rfl, hN24_19⟩
        have hz24_19 := hE24_19.1
        try simp only [size_alloc, size_setB, size_drew] at hz24_19
        have hs24_19 := hN24_19.z_add
        refine WO_p (PS_assign_slice rfl) ?_
        refine WO_nil ?_
        refine thn_normal ?_
        refine W_ret ?_
        refine bodyQ_ret1 Hvac.results307 rfl (.slice _ _ _) rfl ?_
        have hp0 : (2 : Nat) ^ (8 * a + 8) ≠ 0 := Nat.pos_iff_ne_zero.1 (Nat.pow_pos (by decide))
        try simp only [if_neg hp0] at *
        unfold ysext
        first
        | (rw [if_neg hbig]; exact ⟨(by repeat (first | assumption | exact Ext.refl _ | refine Ext.alloc ?_ _ | refine Ext.drew ?_ | refine Ext.setB ?_ (by first | omega | (simp only [size_alloc, size_setB, size_drew]; omega)) _ | refine Ext.trans ?_ (by assumption))), _, rfl, (by first | exact NN.nil _ | assumption | exact NN.ext (by assumption) (by repeat (first | assumption | exact Ext.refl _ | refine Ext.alloc ?_ _ | refine Ext.drew ?_ | refine Ext.setB ?_ (by first | omega | (simp only [size_alloc, size_setB, size_drew]; omega)) _ | refine Ext.trans ?_ (by assumption))))⟩)
        | (rw [if_pos hlt, if_neg htb]; exact ⟨(by repeat (first | assumption | exact Ext.refl _ | refine Ext.alloc ?_ _ | refine Ext.drew ?_ | refine Ext.setB ?_ (by first | omega | (simp only [size_alloc, size_setB, size_drew]; omega)) _ | refine Ext.trans ?_ (by assumption))), _, rfl, (by first | exact NN.nil _ | assumption | exact NN.ext (by assumption) (by repeat (first | assumption | exact Ext.refl _ | refine Ext.alloc ?_ _ | refine Ext.drew ?_ | refine Ext.setB ?_ (by first | omega | (simp only [size_alloc, size_setB, size_drew]; omega)) _ | refine Ext.trans ?_ (by assumption))))⟩)
        | (rw [if_pos hlt, if_pos htb]; exact ⟨(by repeat (first | assumption | exact Ext.refl _ | refine Ext.alloc ?_ _ | refine Ext.drew ?_ | refine Ext.setB ?_ (by first | omega | (simp only [size_alloc, size_setB, size_drew]; omega)) _ | refine Ext.trans ?_ (by assumption))), _, rfl, (by first | exact NN.nil _ | assumption | exact NN.ext (by assumption) (by repeat (first | assumption | exact Ext.refl _ | refine Ext.alloc ?_ _ | refine Ext.drew ?_ | refine Ext.setB ?_ (by first | omega | (simp only [size_alloc, size_setB, size_drew]; omega)) _ | refine Ext.trans ?_ (by assumption))))⟩)

set_option maxRecDepth 10000 in
set_option maxHeartbeats 4000000 in
theorem bitwise_spec [Om] (w : World) (hO : OmB w) (ap : Option Addr) (an acY a : Nat) (ha : NN w (ap, an, acY) a) (za : sz a ≤ 32) (bp : Option Addr) (bn bc b : Nat) (hb : NN w (bp, bn, bc) b) (zb : sz b ≤ 32) (o : Int) (ho : o = 22 ∨ o = 23 ∨ o = 24 ∨ o = 25) : Ret Hvac.prog 310 #[.int .u8 o, .slice ap an acY, .slice bp bn bc] w fun u w' => Ext w w' ∧ ∃ s' : SV, u = .slice s'.1 s'.2.1 s'.2.2 ∧ NN w' s' (ybits o a b) := by
  have han := ha.szl
  have hbn := hb.szl
  have h32 : (32 : Int) = ((32 : Nat) : Int) := rfl
  refine Ret_of_W Hvac.func310 rfl rfl ?_
  refine W_seq ?_
  refine W_region rfl ?_
  refine WO_p (PS_assign_slice rfl) ?_
  refine WO_nil ?_
  refine thn_normal ?_
  refine W_seq ?_
  refine W_region rfl ?_
  refine WO_make (z := .int .u8 0) Hvac.underlying92 info5 rfl rfl rfl (by omega) (by omega) (by show (1:Int) * _ ≤ _; omega) (by omega) ?_
  rw [show ((32:Int)).toNat = 32 from rfl, show madeCells (Value.int IntKind.u8 0).cells (32 * Hvac.t5.size) = ic .u8 (List.replicate 32 0) from by rw [show Hvac.t5.size = 1 from rfl, Nat.mul_one]; exact made_ic .u8 _]
  apply WO_gen4; intro w27 hw27
  have hb27 : Hb w27 w.heap.size (.cells (ic .u8 (List.replicate 32 0)) 5 (0, 0)) := by rw [hw27]; exact Hb.newY _ _
  have hE27 : Ext w w27 := by rw [hw27]; exact Ext.alloc (Ext.refl _) _
  have hfr := hO.fresh (Nat.le_refl w.heap.size)
  obtain ⟨b4, hb4e⟩ : ∃ b4, b4 = w.heap.size := ⟨_, rfl⟩
  rw [← hb4e] at hb27 hfr ⊢
  clear hw27
  refine WO_p (PS_assign_slice rfl) ?_
  refine WO_nil ?_
  refine thn_normal ?_
  refine W_seq ?_
  refine W_seq ?_
  refine W_region rfl ?_
  refine WO_p (PS_move_slice rfl) ?_
  refine WO_p (PS_lenS Hvac.runUnderlying92 rfl) ?_
  refine WO_p (PS_move_int rfl) ?_
  refine WO_nil ?_
  refine thn_normal ?_
  refine W_block ?_
  refine W_loopN (fun k ρ w' => ∃ (i : Nat) (M : List Int), i + k = 32 ∧ By M 32 ∧ (∀ q, q < i → M.getD q 0 = bz o ((dg a).getD q 0) ((dg b).getD q 0)) ∧ Fr [(0, .int .u8 o), (1, .slice ap an acY), (2, .slice bp bn bc), (7, .slice (some ⟨b4, 0, none⟩) 32 32), (13, .int .i64 32), (14, .int .i64 i)] ρ ∧ Ext w w' ∧ Hb w' b4 (.cells (ic .u8 M) 5 (0, 0))) 32 ?_ ?_
  · exact ⟨0, List.replicate 32 0, by omega, rep_by 32, fun q h => absurd h (Nat.not_lt_zero q), ⟨rfl, rfl, rfl, rfl, rfl, rfl, trivial⟩, hE27, hb27⟩
  intro k2 ρ2 w2 hI2
  obtain ⟨i, M, hik, hL, hdone, hFr2, hE2, hbM⟩ := hI2
  refine W_env _ hFr2 ?_
  have hz2 := hE2.1
  have hbM_l := hbM.lt
  refine W_seq ?_
  refine W_region rfl ?_
  refine WO_p (PS_lss rfl rfl) ?_
  refine WO_nil ?_
  refine thn_normal ?_
  refine W_seq ?_
  refine W_if rfl (fun hb2 => ?_) (fun hb2 => ?_)
  · have hb2p := hb2.h; try simp only [al_ete, al_dfn, Bool.not_eq_true', Bool.not_eq_false', al_ne, Bool.not_not, al_nn] at hb2p
    refine W_skip ?_
    refine thn_normal ?_
    refine W_seq ?_
    refine W_block ?_
    refine W_seq ?_
    refine W_region rfl ?_
    refine WO_p (PS_move_int rfl) ?_
    refine WO_p (PS_assign_int rfl) ?_
    refine WO_nil ?_
    refine thn_normal ?_
    refine W_seq ?_
    refine W_region rfl ?_
    refine WO_p (PS_assign_int rfl) ?_
    refine WO_nil ?_
    refine thn_normal ?_
    refine W_seq ?_
    refine W_region rfl ?_
    refine WO_p (PS_assign_int rfl) ?_
    refine WO_nil ?_
    refine thn_normal ?_
    refine W_seqJ (fun ρ w' => Fr [(0, .int .u8 o), (1, .slice ap an acY), (2, .slice bp bn bc), (7, .slice (some ⟨b4, 0, none⟩) 32 32), (13, .int .i64 32), (14, .int .i64 i), (8, .int .i64 i), (9, .int .u8 ((dg a).getD i 0)), (10, .int .u8 0)] ρ ∧ Ext w w' ∧ Hb w' b4 (.cells (ic .u8 M) 5 (0, 0))) ?_ ?_
    · skip
      refine W_seq ?_
      refine W_region rfl ?_
      refine WO_p (PS_move_int rfl) ?_
      refine WO_p (PS_move_slice rfl) ?_
      refine WO_p (PS_lenS Hvac.runUnderlying92 rfl) ?_
      refine WO_p (PS_lss rfl rfl) ?_
      refine WO_nil ?_
      refine thn_normal ?_
      refine W_if rfl (fun hb4 => ?_) (fun hb4 => ?_)
      · have hb4p := hb4.h; try simp only [al_ete, al_dfn, Bool.not_eq_true', Bool.not_eq_false', al_ne, Bool.not_not, al_nn] at hb4p
        obtain ⟨b', o', r', T', fz', hp', hb', hrs', hat'⟩ := (PB.ab (PB.ext ha hE2)).at_ (by omega)
        subst hp'
        have hce' := hat' i (by omega)
        refine W_region rfl ?_
        refine WO_p (PS_move_slice rfl) ?_
        refine WO_p (PS_move_int rfl) ?_
        refine WO_p (PS_indexS Hvac.runUnderlying92 Hvac.sizeOf5 rfl rfl (by omega) (by omega)) ?_
        refine WO_load (.int _ _) Hvac.isAgg5 rfl (Hb.h (by repeat (first | assumption | exact Hb.newY _ _ | refine Hb.alloc ?_ | refine Hb.drew ?_ | refine Hb.ext (by assumption) ?_ | exact Hb.setSameL (by first | omega | (simp only [size_alloc, size_setB, size_drew]; omega)) | exact Hb.setSame (by assumption) | refine Hb.set (by first | omega | (simp only [size_alloc, size_setB, size_drew]; omega)) ?_ ))) (Ce.h (by first | assumption | exact ⟨rfl⟩)) ?_
        refine WO_p (PS_assign_int rfl) ?_
        refine WO_nil ?_
        refine thn_normal ?_
        first
        | exact ⟨⟨rfl, rfl, rfl, rfl, rfl, rfl, rfl, rfl, rfl, trivial⟩, (by repeat (first | assumption | exact Ext.refl _ | refine Ext.alloc ?_ _ | refine Ext.drew ?_ | refine Ext.setB ?_ (by first | omega | (simp only [size_alloc, size_setB, size_drew]; omega)) _ | exact Ext.trans (by assumption) (by assumption) | refine Ext.trans ?_ (by assumption))), Hb.mk (Hb.h (by repeat (first | assumption | exact Hb.newY _ _ | refine Hb.alloc ?_ | refine Hb.drew ?_ | refine Hb.ext (by assumption) ?_ | exact Hb.setSameL (by first | omega | (simp only [size_alloc, size_setB, size_drew]; omega)) | exact Hb.setSame (by assumption) | refine Hb.set (by first | omega | (simp only [size_alloc, size_setB, size_drew]; omega)) ?_ )))⟩
        | exact ⟨⟨rfl, rfl, rfl, rfl, rfl, rfl, rfl, by rw [hx0] <;> rfl, rfl, trivial⟩, (by repeat (first | assumption | exact Ext.refl _ | refine Ext.alloc ?_ _ | refine Ext.drew ?_ | refine Ext.setB ?_ (by first | omega | (simp only [size_alloc, size_setB, size_drew]; omega)) _ | exact Ext.trans (by assumption) (by assumption) | refine Ext.trans ?_ (by assumption))), Hb.mk (Hb.h (by repeat (first | assumption | exact Hb.newY _ _ | refine Hb.alloc ?_ | refine Hb.drew ?_ | refine Hb.ext (by assumption) ?_ | exact Hb.setSameL (by first | omega | (simp only [size_alloc, size_setB, size_drew]; omega)) | exact Hb.setSame (by assumption) | refine Hb.set (by first | omega | (simp only [size_alloc, size_setB, size_drew]; omega)) ?_ )))⟩
      · have hb4p := hb4.h; try simp only [al_ete, al_dfn, Bool.not_eq_true', Bool.not_eq_false', al_ne, Bool.not_not, al_nn] at hb4p
        have hx0 : (dg a).getD i 0 = 0 := gd_ge (by rw [dg_len]; omega)
        refine W_skip ?_
        refine thn_normal ?_
        first
        | exact ⟨⟨rfl, rfl, rfl, rfl, rfl, rfl, rfl, rfl, rfl, trivial⟩, (by repeat (first | assumption | exact Ext.refl _ | refine Ext.alloc ?_ _ | refine Ext.drew ?_ | refine Ext.setB ?_ (by first | omega | (simp only [size_alloc, size_setB, size_drew]; omega)) _ | exact Ext.trans (by assumption) (by assumption) | refine Ext.trans ?_ (by assumption))), Hb.mk (Hb.h (by repeat (first | assumption | exact Hb.newY _ _ | refine Hb.alloc ?_ | refine Hb.drew ?_ | refine Hb.ext (by assumption) ?_ | exact Hb.setSameL (by first | omega | (simp only [size_alloc, size_setB, size_drew]; omega)) | exact Hb.setSame (by assumption) | refine Hb.set (by first | omega | (simp only [size_alloc, size_setB, size_drew]; omega)) ?_ )))⟩
        | exact ⟨⟨rfl, rfl, rfl, rfl, rfl, rfl, rfl, by rw [hx0] <;> rfl, rfl, trivial⟩, (by repeat (first | assumption | exact Ext.refl _ | refine Ext.alloc ?_ _ | refine Ext.drew ?_ | refine Ext.setB ?_ (by first | omega | (simp only [size_alloc, size_setB, size_drew]; omega)) _ | exact Ext.trans (by assumption) (by assumption) | refine Ext.trans ?_ (by assumption))), Hb.mk (Hb.h (by repeat (first | assumption | exact Hb.newY _ _ | refine Hb.alloc ?_ | refine Hb.drew ?_ | refine Hb.ext (by assumption) ?_ | exact Hb.setSameL (by first | omega | (simp only [size_alloc, size_setB, size_drew]; omega)) | exact Hb.setSame (by assumption) | refine Hb.set (by first | omega | (simp only [size_alloc, size_setB, size_drew]; omega)) ?_ )))⟩
    · rintro ρ3 w3 ⟨hFr3, hE3, hbM3⟩
      refine W_env _ hFr3 ?_
      have hz3 := hE3.1
      refine W_seqJ (fun ρ w' => Fr [(0, .int .u8 o), (1, .slice ap an acY), (2, .slice bp bn bc), (7, .slice (some ⟨b4, 0, none⟩) 32 32), (13, .int .i64 32), (14, .int .i64 i), (8, .int .i64 i), (9, .int .u8 ((dg a).getD i 0)), (10, .int .u8 ((dg b).getD i 0))] ρ ∧ Ext w w' ∧ Hb w' b4 (.cells (ic .u8 M) 5 (0, 0))) ?_ ?_
      · skip
        refine W_seq ?_
        refine W_region rfl ?_
        refine WO_p (PS_move_int rfl) ?_
        refine WO_p (PS_move_slice rfl) ?_
        refine WO_p (PS_lenS Hvac.runUnderlying92 rfl) ?_
        refine WO_p (PS_lss rfl rfl) ?_
        refine WO_nil ?_
        refine thn_normal ?_
        refine W_if rfl (fun hb6 => ?_) (fun hb6 => ?_)
        · have hb6p := hb6.h; try simp only [al_ete, al_dfn, Bool.not_eq_true', Bool.not_eq_false', al_ne, Bool.not_not, al_nn] at hb6p
          obtain ⟨b', o', r', T', fz', hp', hb', hrs', hat'⟩ := (PB.ab (PB.ext hb hE3)).at_ (by omega)
          subst hp'
          have hce' := hat' i (by omega)
          refine W_region rfl ?_
          refine WO_p (PS_move_slice rfl) ?_
          refine WO_p (PS_move_int rfl) ?_
          refine WO_p (PS_indexS Hvac.runUnderlying92 Hvac.sizeOf5 rfl rfl (by omega) (by omega)) ?_
          refine WO_load (.int _ _) Hvac.isAgg5 rfl (Hb.h (by repeat (first | assumption | exact Hb.newY _ _ | refine Hb.alloc ?_ | refine Hb.drew ?_ | refine Hb.ext (by assumption) ?_ | exact Hb.setSameL (by first | omega | (simp only [size_alloc, size_setB, size_drew]; omega)) | exact Hb.setSame (by assumption) | refine Hb.set (by first | omega | (simp only [size_alloc, size_setB, size_drew]; omega)) ?_ ))) (Ce.h (by first | assumption | exact ⟨rfl⟩)) ?_
          refine WO_p (PS_assign_int rfl) ?_
          refine WO_nil ?_
          refine thn_normal ?_
          first
          | exact ⟨⟨rfl, rfl, rfl, rfl, rfl, rfl, rfl, rfl, rfl, trivial⟩, (by repeat (first | assumption | exact Ext.refl _ | refine Ext.alloc ?_ _ | refine Ext.drew ?_ | refine Ext.setB ?_ (by first | omega | (simp only [size_alloc, size_setB, size_drew]; omega)) _ | exact Ext.trans (by assumption) (by assumption) | refine Ext.trans ?_ (by assumption))), Hb.mk (Hb.h (by repeat (first | assumption | exact Hb.newY _ _ | refine Hb.alloc ?_ | refine Hb.drew ?_ | refine Hb.ext (by assumption) ?_ | exact Hb.setSameL (by first | omega | (simp only [size_alloc, size_setB, size_drew]; omega)) | exact Hb.setSame (by assumption) | refine Hb.set (by first | omega | (simp only [size_alloc, size_setB, size_drew]; omega)) ?_ )))⟩
          | exact ⟨⟨rfl, rfl, rfl, rfl, rfl, rfl, rfl, rfl, by rw [hy0] <;> rfl, trivial⟩, (by repeat (first | assumption | exact Ext.refl _ | refine Ext.alloc ?_ _ | refine Ext.drew ?_ | refine Ext.setB ?_ (by first | omega | (simp only [size_alloc, size_setB, size_drew]; omega)) _ | exact Ext.trans (by assumption) (by assumption) | refine Ext.trans ?_ (by assumption))), Hb.mk (Hb.h (by repeat (first | assumption | exact Hb.newY _ _ | refine Hb.alloc ?_ | refine Hb.drew ?_ | refine Hb.ext (by assumption) ?_ | exact Hb.setSameL (by first | omega | (simp only [size_alloc, size_setB, size_drew]; omega)) | exact Hb.setSame (by assumption) | refine Hb.set (by first | omega | (simp only [size_alloc, size_setB, size_drew]; omega)) ?_ )))⟩
        · have hb6p := hb6.h; try simp only [al_ete, al_dfn, Bool.not_eq_true', Bool.not_eq_false', al_ne, Bool.not_not, al_nn] at hb6p
          have hy0 : (dg b).getD i 0 = 0 := gd_ge (by rw [dg_len]; omega)
          refine W_skip ?_
          refine thn_normal ?_
          first
          | exact ⟨⟨rfl, rfl, rfl, rfl, rfl, rfl, rfl, rfl, rfl, trivial⟩, (by repeat (first | assumption | exact Ext.refl _ | refine Ext.alloc ?_ _ | refine Ext.drew ?_ | refine Ext.setB ?_ (by first | omega | (simp only [size_alloc, size_setB, size_drew]; omega)) _ | exact Ext.trans (by assumption) (by assumption) | refine Ext.trans ?_ (by assumption))), Hb.mk (Hb.h (by repeat (first | assumption | exact Hb.newY _ _ | refine Hb.alloc ?_ | refine Hb.drew ?_ | refine Hb.ext (by assumption) ?_ | exact Hb.setSameL (by first | omega | (simp only [size_alloc, size_setB, size_drew]; omega)) | exact Hb.setSame (by assumption) | refine Hb.set (by first | omega | (simp only [size_alloc, size_setB, size_drew]; omega)) ?_ )))⟩
          | exact ⟨⟨rfl, rfl, rfl, rfl, rfl, rfl, rfl, rfl, by rw [hy0] <;> rfl, trivial⟩, (by repeat (first | assumption | exact Ext.refl _ | refine Ext.alloc ?_ _ | refine Ext.drew ?_ | refine Ext.setB ?_ (by first | omega | (simp only [size_alloc, size_setB, size_drew]; omega)) _ | exact Ext.trans (by assumption) (by assumption) | refine Ext.trans ?_ (by assumption))), Hb.mk (Hb.h (by repeat (first | assumption | exact Hb.newY _ _ | refine Hb.alloc ?_ | refine Hb.drew ?_ | refine Hb.ext (by assumption) ?_ | exact Hb.setSameL (by first | omega | (simp only [size_alloc, size_setB, size_drew]; omega)) | exact Hb.setSame (by assumption) | refine Hb.set (by first | omega | (simp only [size_alloc, size_setB, size_drew]; omega)) ?_ )))⟩
      · rintro ρ4 w4 ⟨hFr4, hE4, hbM4⟩
        refine W_env _ hFr4 ?_
        have hz4 := hE4.1
        have hbd := bz_bd o ((dg a).getD i 0) ((dg b).getD i 0)
        refine W_seq ?_
        refine W_region rfl ?_
        refine WO_p (PS_move_int rfl) ?_
        refine WO_nil ?_
        refine thn_normal ?_
        refine W_block ?_
        refine W_seq ?_
        refine W_region rfl ?_
        refine WO_p (PS_eql rfl rfl) ?_
        refine WO_p (PS_assign_bool rfl) ?_
        refine WO_nil ?_
        refine thn_normal ?_
        refine W_if rfl (fun hb8 => ?_) (fun hb8 => ?_)
        · have hb8p := hb8.h; try simp only [al_ete, al_dfn, Bool.not_eq_true', Bool.not_eq_false', al_ne, Bool.not_not, al_nn] at hb8p
          have ho2 : o = 22 := by omega
          refine W_region rfl ?_
          refine WO_p (PS_move_slice rfl) ?_
          refine WO_p (PS_move_int rfl) ?_
          refine WO_p (PS_move_int rfl) ?_
          refine WO_p (PS_move_int rfl) ?_
          refine WO_p (PS_and_u8 rfl rfl) ?_
          refine WO_p (PS_indexS Hvac.runUnderlying92 Hvac.sizeOf5 rfl rfl (by omega) (by omega)) ?_
          refine WO_store1 Hvac.sizeOf5 rfl (v := .int _ _) rfl (Hb.h (by repeat (first | assumption | exact Hb.newY _ _ | refine Hb.alloc ?_ | refine Hb.drew ?_ | refine Hb.ext (by assumption) ?_ | exact Hb.setSameL (by first | omega | (simp only [size_alloc, size_setB, size_drew]; omega)) | exact Hb.setSame (by assumption) | refine Hb.set (by first | omega | (simp only [size_alloc, size_setB, size_drew]; omega)) ?_ ))) rfl (by rw [size_ic, hL.1]; omega) rfl ?_
          rw [show ((i : Int)).toNat = i from Int.toNat_natCast i, ic_set]
          refine WO_nil ?_
          refine inBlk_normal ?_
          refine inBlk_normal ?_
          refine thn_normal ?_
          refine W_region rfl ?_
          refine WO_p (PS_add_i64n rfl rfl (by omega) (by omega)) ?_
          refine WO_p (PS_move_int rfl) ?_
          refine WO_nil ?_
          refine thn_normal ?_
          refine ⟨k2 - 1, by omega, i + 1, M.set i (bz o ((dg a).getD i 0) ((dg b).getD i 0)), by omega, set_by hL hbd, fun q hq => by
            rw [gd_set _ _ _ _ (by rw [hL.1]; omega)]
            split
            · rename_i e; rw [e]
            · exact hdone q (by omega), ⟨rfl, rfl, rfl, rfl, rfl, congrArg (Value.int .i64) (by omega), trivial⟩, Ext.setB hE4 (by omega) _, ?_⟩
          subst ho2
          exact Hb.setSame hbM4
        · have hb8p := hb8.h; try simp only [al_ete, al_dfn, Bool.not_eq_true', Bool.not_eq_false', al_ne, Bool.not_not, al_nn] at hb8p
          refine W_seq ?_
          refine W_region rfl ?_
          refine WO_p (PS_eql rfl rfl) ?_
          refine WO_p (PS_assign_bool rfl) ?_
          refine WO_nil ?_
          refine thn_normal ?_
          refine W_if rfl (fun hb10 => ?_) (fun hb10 => ?_)
          · have hb10p := hb10.h; try simp only [al_ete, al_dfn, Bool.not_eq_true', Bool.not_eq_false', al_ne, Bool.not_not, al_nn] at hb10p
            have ho2 : o = 23 := by omega
            refine W_region rfl ?_
            refine WO_p (PS_move_slice rfl) ?_
            refine WO_p (PS_move_int rfl) ?_
            refine WO_p (PS_move_int rfl) ?_
            refine WO_p (PS_move_int rfl) ?_
            refine WO_p (PS_or_u8 rfl rfl) ?_
            refine WO_p (PS_indexS Hvac.runUnderlying92 Hvac.sizeOf5 rfl rfl (by omega) (by omega)) ?_
            refine WO_store1 Hvac.sizeOf5 rfl (v := .int _ _) rfl (Hb.h (by repeat (first | assumption | exact Hb.newY _ _ | refine Hb.alloc ?_ | refine Hb.drew ?_ | refine Hb.ext (by assumption) ?_ | exact Hb.setSameL (by first | omega | (simp only [size_alloc, size_setB, size_drew]; omega)) | exact Hb.setSame (by assumption) | refine Hb.set (by first | omega | (simp only [size_alloc, size_setB, size_drew]; omega)) ?_ ))) rfl (by rw [size_ic, hL.1]; omega) rfl ?_
            rw [show ((i : Int)).toNat = i from Int.toNat_natCast i, ic_set]
            refine WO_nil ?_
            refine inBlk_normal ?_
            refine inBlk_normal ?_
            refine thn_normal ?_
            refine W_region rfl ?_
            refine WO_p (PS_add_i64n rfl rfl (by omega) (by omega)) ?_
            refine WO_p (PS_move_int rfl) ?_
            refine WO_nil ?_
            refine thn_normal ?_
            refine ⟨k2 - 1, by omega, i + 1, M.set i (bz o ((dg a).getD i 0) ((dg b).getD i 0)), by omega, set_by hL hbd, fun q hq => by
              rw [gd_set _ _ _ _ (by rw [hL.1]; omega)]
              split
              · rename_i e; rw [e]
              · exact hdone q (by omega), ⟨rfl, rfl, rfl, rfl, rfl, congrArg (Value.int .i64) (by omega), trivial⟩, Ext.setB hE4 (by omega) _, ?_⟩
            subst ho2
            exact Hb.setSame hbM4
          · have hb10p := hb10.h; try simp only [al_ete, al_dfn, Bool.not_eq_true', Bool.not_eq_false', al_ne, Bool.not_not, al_nn] at hb10p
            refine W_seq ?_
            refine W_region rfl ?_
            refine WO_p (PS_eql rfl rfl) ?_
            refine WO_p (PS_assign_bool rfl) ?_
            refine WO_nil ?_
            refine thn_normal ?_
            refine W_if rfl (fun hb12 => ?_) (fun hb12 => ?_)
            · have hb12p := hb12.h; try simp only [al_ete, al_dfn, Bool.not_eq_true', Bool.not_eq_false', al_ne, Bool.not_not, al_nn] at hb12p
              have ho2 : o = 24 := by omega
              refine W_region rfl ?_
              refine WO_p (PS_move_slice rfl) ?_
              refine WO_p (PS_move_int rfl) ?_
              refine WO_p (PS_move_int rfl) ?_
              refine WO_p (PS_move_int rfl) ?_
              refine WO_p (PS_xor_u8 rfl rfl) ?_
              refine WO_p (PS_indexS Hvac.runUnderlying92 Hvac.sizeOf5 rfl rfl (by omega) (by omega)) ?_
              refine WO_store1 Hvac.sizeOf5 rfl (v := .int _ _) rfl (Hb.h (by repeat (first | assumption | exact Hb.newY _ _ | refine Hb.alloc ?_ | refine Hb.drew ?_ | refine Hb.ext (by assumption) ?_ | exact Hb.setSameL (by first | omega | (simp only [size_alloc, size_setB, size_drew]; omega)) | exact Hb.setSame (by assumption) | refine Hb.set (by first | omega | (simp only [size_alloc, size_setB, size_drew]; omega)) ?_ ))) rfl (by rw [size_ic, hL.1]; omega) rfl ?_
              rw [show ((i : Int)).toNat = i from Int.toNat_natCast i, ic_set]
              refine WO_nil ?_
              refine inBlk_normal ?_
              refine inBlk_normal ?_
              refine thn_normal ?_
              refine W_region rfl ?_
              refine WO_p (PS_add_i64n rfl rfl (by omega) (by omega)) ?_
              refine WO_p (PS_move_int rfl) ?_
              refine WO_nil ?_
              refine thn_normal ?_
              refine ⟨k2 - 1, by omega, i + 1, M.set i (bz o ((dg a).getD i 0) ((dg b).getD i 0)), by omega, set_by hL hbd, fun q hq => by
                rw [gd_set _ _ _ _ (by rw [hL.1]; omega)]
                split
                · rename_i e; rw [e]
                · exact hdone q (by omega), ⟨rfl, rfl, rfl, rfl, rfl, congrArg (Value.int .i64) (by omega), trivial⟩, Ext.setB hE4 (by omega) _, ?_⟩
              subst ho2
              exact Hb.setSame hbM4
            · have hb12p := hb12.h; try simp only [al_ete, al_dfn, Bool.not_eq_true', Bool.not_eq_false', al_ne, Bool.not_not, al_nn] at hb12p
              refine W_seq ?_
              refine W_region rfl ?_
              refine WO_p (PS_eql rfl rfl) ?_
              refine WO_p (PS_assign_bool rfl) ?_
              refine WO_nil ?_
              refine thn_normal ?_
              refine W_if rfl (fun hb14 => ?_) (fun hb14 => ?_)
              · have hb14p := hb14.h; try simp only [al_ete, al_dfn, Bool.not_eq_true', Bool.not_eq_false', al_ne, Bool.not_not, al_nn] at hb14p
                have ho2 : o = 25 := by omega
                refine W_region rfl ?_
                refine WO_p (PS_move_slice rfl) ?_
                refine WO_p (PS_move_int rfl) ?_
                refine WO_p (PS_move_int rfl) ?_
                refine WO_p (PS_com_u8 rfl) ?_
                refine WO_p (PS_indexS Hvac.runUnderlying92 Hvac.sizeOf5 rfl rfl (by omega) (by omega)) ?_
                refine WO_store1 Hvac.sizeOf5 rfl (v := .int _ _) rfl (Hb.h (by repeat (first | assumption | exact Hb.newY _ _ | refine Hb.alloc ?_ | refine Hb.drew ?_ | refine Hb.ext (by assumption) ?_ | exact Hb.setSameL (by first | omega | (simp only [size_alloc, size_setB, size_drew]; omega)) | exact Hb.setSame (by assumption) | refine Hb.set (by first | omega | (simp only [size_alloc, size_setB, size_drew]; omega)) ?_ ))) rfl (by rw [size_ic, hL.1]; omega) rfl ?_
                rw [show ((i : Int)).toNat = i from Int.toNat_natCast i, ic_set]
                refine WO_nil ?_
                refine inBlk_normal ?_
                refine inBlk_normal ?_
                refine thn_normal ?_
                refine W_region rfl ?_
                refine WO_p (PS_add_i64n rfl rfl (by omega) (by omega)) ?_
                refine WO_p (PS_move_int rfl) ?_
                refine WO_nil ?_
                refine thn_normal ?_
                refine ⟨k2 - 1, by omega, i + 1, M.set i (bz o ((dg a).getD i 0) ((dg b).getD i 0)), by omega, set_by hL hbd, fun q hq => by
                  rw [gd_set _ _ _ _ (by rw [hL.1]; omega)]
                  split
                  · rename_i e; rw [e]
                  · exact hdone q (by omega), ⟨rfl, rfl, rfl, rfl, rfl, congrArg (Value.int .i64) (by omega), trivial⟩, Ext.setB hE4 (by omega) _, ?_⟩
                subst ho2
                exact Hb.setSame hbM4
              · have hb14p := hb14.h; try simp only [al_ete, al_dfn, Bool.not_eq_true', Bool.not_eq_false', al_ne, Bool.not_not, al_nn] at hb14p
                exfalso; omega --END
  · have hb2p := hb2.h; try simp only [al_ete, al_dfn, Bool.not_eq_true', Bool.not_eq_false', al_ne, Bool.not_not, al_nn] at hb2p
    refine W_exit ?_
    refine thn_exit ?_
    refine thn_exit ?_
    refine inBlk_exit ?_
    refine thn_normal ?_
    refine W_seq ?_
    refine W_region rfl ?_
    refine WO_p (PS_move_slice rfl) ?_
    refine WO_call Hvac.call79 (by rfl) (Ret.mono (normX_spec (some ⟨b4, 0, none⟩, 32, 32) M _ (OmB.ext hO (by repeat (first | assumption | exact Ext.refl _ | refine Ext.alloc ?_ _ | refine Ext.drew ?_ | refine Ext.setB ?_ (by first | omega | (simp only [size_alloc, size_setB, size_drew]; omega)) _ | exact Ext.trans (by assumption) (by assumption) | refine Ext.trans ?_ (by assumption)))) (AB.whole hbM hL) (by show (32:Nat) ≤ _; decide)) ?_)
    rintro _ w9 ⟨hE9, s9, rfl, hN9⟩
    have hz9 := hE9.1
    try simp only [size_alloc, size_setB, size_drew] at hz9
    refine WO_p (PS_assign_slice rfl) ?_
    refine WO_nil ?_
    refine thn_normal ?_
    refine W_ret ?_
    refine bodyQ_ret1 Hvac.results310 rfl (.slice _ _ _) rfl ?_
    have hi0 : i = 32 := by omega
    rw [bz_dv ho za zb hL (fun q hq => hdone q (by omega))] at hN9
    exact ⟨(by repeat (first | assumption | exact Ext.refl _ | refine Ext.alloc ?_ _ | refine Ext.drew ?_ | refine Ext.setB ?_ (by first | omega | (simp only [size_alloc, size_setB, size_drew]; omega)) _ | refine Ext.trans ?_ (by assumption))), s9, rfl, hN9⟩

end Go.Proofs.YgvacwGreat
