import Derived.Test.YgvacwGreatJb
namespace Go.Proofs.YgvacwGreat
set_option linter.unusedSimpArgs false
set_option linter.unusedVariables false
theorem sh_split (n : Nat) : 64 * (n / 64) + n % 64 = n := Nat.div_add_mod n 64
theorem shl_wn {W X R : List Int} (hX : Wd X) (hR : Wd R) (hW : Wd W) {x c : Int} (hx : x = wv W ∧ x < 256) (h : lvr R 0 4 + c * 18446744073709551616 ^ 4 = lvr X 0 (4 - (x / 64).toNat) * (2 ^ (x % 64).toNat * 18446744073709551616 ^ (x / 64).toNat)) : wn R = yshift 27 (wn W) (wn X) := by
  have hb := wv_bd hW
  have e := shl_fin hX.ulx hR.ulx (by omega) h
  have hw := wn_int hW
  have e2 : 64 * (x / 64).toNat + (x % 64).toNat = wn W := by omega
  rw [e2, ← wv_lvr hX, ← wv_lvr hR, ← wn_int hX, ← wn_int hR] at e
  unfold yshift
  rw [if_pos rfl, show min (wn W) 256 = wn W by omega]
  have e3 : (2:Int) ^ wn W = ((2 ^ wn W : Nat) : Int) := by simp
  rw [e3, ← Int.natCast_mul] at e
  omega
theorem shl_wn0 {W X : List Int} (hW : Wd W) (h : 256 ≤ wv W) : wn [0, 0, 0, 0] = yshift 27 (wn W) (wn X) := by
  have hw := wn_int hW
  unfold yshift
  rw [if_pos rfl, show min (wn W) 256 = 256 by omega, show (2:Nat) ^ 256 = 115792089237316195423570985008687907853269984665640564039457584007913129639936 from rfl, Nat.mul_mod_left]
  rfl
theorem dn_wn0 {W X R : List Int} (hX : Wd X) (hR : Wd R) (hW : Wd W) {x m : Int} (hx : x = wv W ∧ x < 256) (hm : 0 ≤ m ∧ m < 2 ^ (x % 64).toNat) (h : 2 ^ (x % 64).toNat * lvr R 0 (4 - (x / 64).toNat) + m = lvr X (x / 64).toNat (4 - (x / 64).toNat)) (hf : ∀ j, 4 - (x / 64).toNat ≤ j → j < 4 → R.getD j 0 = 0) : wn R = wn X / 2 ^ min (wn W) 256 := by
  have hb := wv_bd hW
  have e := dn_fin0 hX.ulx (by omega) (by omega) hm h hf
  have hw := wn_int hW
  have e2 : 64 * (x / 64).toNat + (x % 64).toNat = wn W := by omega
  rw [e2, ← wv_lvr hX, ← wv_lvr hR, ← wn_int hX, ← wn_int hR] at e
  rw [show min (wn W) 256 = wn W by omega]
  have e3 : (2:Int) ^ wn W = ((2 ^ wn W : Nat) : Int) := by simp
  rw [e3, ← Int.natCast_ediv] at e
  omega
theorem dn_wn1 {W X R : List Int} (hX : Wd X) (hR : Wd R) (hW : Wd W) {x m : Int} (hx : x = wv W ∧ x < 256) (hm : 0 ≤ m ∧ m < 2 ^ (x % 64).toNat) (h : 2 ^ (x % 64).toNat * lvr R 0 (4 - (x / 64).toNat) + m = lvr X (x / 64).toNat (4 - (x / 64).toNat) + (2 ^ (x % 64).toNat - 1) * 18446744073709551616 ^ (4 - (x / 64).toNat)) (hf : ∀ j, 4 - (x / 64).toNat ≤ j → j < 4 → R.getD j 0 = 18446744073709551615) : wn R = 115792089237316195423570985008687907853269984665640564039457584007913129639936 - 1 - (115792089237316195423570985008687907853269984665640564039457584007913129639936 - 1 - wn X) / 2 ^ min (wn W) 256 := by
  have hb := wv_bd hW
  have e := dn_fin1 hX.ulx (by omega) (by omega) hm h hf
  have hw := wn_int hW
  have hxl := wn_lt hX
  have e2 : 64 * (x / 64).toNat + (x % 64).toNat = wn W := by omega
  rw [e2, ← wv_lvr hX, ← wv_lvr hR, ← wn_int hX, ← wn_int hR] at e
  rw [show min (wn W) 256 = wn W by omega]
  have e3 : (2:Int) ^ wn W = ((2 ^ wn W : Nat) : Int) := by simp
  have e4 : (115792089237316195423570985008687907853269984665640564039457584007913129639936 - 1 - (wn X : Int)) = ((115792089237316195423570985008687907853269984665640564039457584007913129639936 - 1 - wn X : Nat) : Int) := by omega
  rw [e3, e4, ← Int.natCast_ediv] at e
  have e5 := Nat.div_le_self (115792089237316195423570985008687907853269984665640564039457584007913129639936 - 1 - wn X) (2 ^ wn W)
  omega
theorem fill4 (f : Int) {j : Nat} (hj : j < 4) : ([f, f, f, f] : List Int).getD j 0 = f := by
  match j, hj with
  | 0, _ => rfl
  | 1, _ => rfl
  | 2, _ => rfl
  | 3, _ => rfl
theorem lvr_zero4 : ∀ n, lvr [0, 0, 0, 0] 0 n = 0
  | 0 => rfl
  | n + 1 => by
    rw [lvr_succ, lvr_zero4 n, Nat.zero_add]
    have : ([0, 0, 0, 0] : List Int).getD n 0 = 0 := by
      match n with
      | 0 => rfl
      | 1 => rfl
      | 2 => rfl
      | 3 => rfl
      | n + 4 => rfl
    rw [this]; simp
/-- what a shift down by W comes to, with f from above -/
def DnP (W X R : List Int) (f : Int) : Prop := (256 ≤ wv W ∧ R = [f, f, f, f]) ∨ ∃ x m : Int, (x = wv W ∧ x < 256) ∧ (0 ≤ m ∧ m < 2 ^ (x % 64).toNat) ∧ 2 ^ (x % 64).toNat * lvr R 0 (4 - (x / 64).toNat) + m = lvr X (x / 64).toNat (4 - (x / 64).toNat) + f % 2 ^ (x % 64).toNat * 18446744073709551616 ^ (4 - (x / 64).toNat) ∧ ∀ j, 4 - (x / 64).toNat ≤ j → j < 4 → R.getD j 0 = f
theorem DnP.zero {W X R : List Int} (hX : Wd X) (hR : Wd R) (hW : Wd W) (h : DnP W X R 0) : wn R = wn X / 2 ^ min (wn W) 256 := by
  rcases h with ⟨h1, rfl⟩ | ⟨x, m, h1, h2, h3, h4⟩
  · have hw := wn_int hW
    rw [show min (wn W) 256 = 256 by omega, show (2:Nat) ^ 256 = 115792089237316195423570985008687907853269984665640564039457584007913129639936 from rfl, Nat.div_eq_of_lt (wn_lt hX)]; rfl
  · exact dn_wn0 hX hR hW h1 h2 (by rw [h3]; simp) h4
theorem DnP.one {W X R : List Int} (hX : Wd X) (hR : Wd R) (hW : Wd W) (h : DnP W X R 18446744073709551615) : wn R = 115792089237316195423570985008687907853269984665640564039457584007913129639936 - 1 - (115792089237316195423570985008687907853269984665640564039457584007913129639936 - 1 - wn X) / 2 ^ min (wn W) 256 := by
  rcases h with ⟨h1, rfl⟩ | ⟨x, m, h1, h2, h3, h4⟩
  · have hw := wn_int hW
    rw [show min (wn W) 256 = 256 by omega, show (2:Nat) ^ 256 = 115792089237316195423570985008687907853269984665640564039457584007913129639936 from rfl, Nat.div_eq_of_lt (by omega)]; rfl
  · refine dn_wn1 hX hR hW h1 h2 ?_ h4
    rw [h3]
    have e : (18446744073709551615 : Int) % 2 ^ (x % 64).toNat = 2 ^ (x % 64).toNat - 1 := by
      have hp := pow64 (r := (x % 64).toNat) (by omega)
      have hq := pow2_pos (x % 64).toNat
      have e1 : (18446744073709551615 : Int) = (2 ^ (x % 64).toNat - 1) + 2 ^ (x % 64).toNat * (2 ^ (64 - (x % 64).toNat) - 1) := by rw [Int.mul_sub, Int.mul_comm (2 ^ (x % 64).toNat) (2 ^ (64 - (x % 64).toNat)), hp]; omega
      rw [e1, Int.add_mul_emod_self_left, Int.emod_eq_of_lt (by omega) (by omega)]
    rw [e]
theorem i64neg {a : Int} (h : 0 ≤ a ∧ a ≤ 18446744073709551615) : IntKind.i64.wrap a / 2 ^ 63 % 18446744073709551616 = if 9223372036854775808 ≤ a then 18446744073709551615 else 0 := by
  rw [wrap_i64, show (2:Int) ^ 63 = 9223372036854775808 from by decide]
  split <;> split <;> omega
theorem sar_wn {W X R : List Int} (hX : Wd X) (hR : Wd R) (hW : Wd W) (h : DnP W X R (IntKind.i64.wrap (X.getD 3 0) / 2 ^ 63 % 18446744073709551616)) : wn R = yshift 29 (wn W) (wn X) := by
  rw [i64neg (wd_get hX 3)] at h
  have e : yisn (wn X) = decide (9223372036854775808 ≤ X.getD 3 0) := by
    obtain ⟨a, b, c, d, rfl, ha, hb, hc, hd⟩ := isZ hX
    rw [neg_yisn ha hb hc hd]
    rw [al_bi]; simp only [al_ete]
    show d / 2 ^ 63 ≠ 0 ↔ 9223372036854775808 ≤ d
    rw [show (2:Int) ^ 63 = 9223372036854775808 from by decide]
    omega
  unfold yshift
  rw [if_neg (by decide), e]
  by_cases h9 : 9223372036854775808 ≤ X.getD 3 0
  · rw [if_pos h9] at h
    rw [if_pos ⟨rfl, al_et h9⟩]
    exact DnP.one hX hR hW h
  · rw [if_neg h9] at h
    rw [if_neg (fun h => h9 (of_decide_eq_true h.2))]
    exact DnP.zero hX hR hW h
theorem sx_limb {a : Int} {sp : Nat} (h : 0 ≤ a ∧ a ≤ 18446744073709551615) (hs : sp ≤ 63) : IntKind.i64.wrap (a * 2 ^ sp % 18446744073709551616) / 2 ^ sp % 18446744073709551616 = if 2 ^ (63 - sp) ≤ a % 2 ^ (64 - sp) then a % 2 ^ (64 - sp) + 18446744073709551616 - 2 ^ (64 - sp) else a % 2 ^ (64 - sp) := by
  have hp := pow64 (r := sp) (by omega)
  have hpp := pow2_pos sp
  have hq := pow2_pos (64 - sp)
  have hm0 := Int.emod_nonneg a (Int.ne_of_gt hq)
  have hm1 := Int.emod_lt_of_pos a hq
  have hb := mod_pow_bd (x := a) (r := sp) (by omega)
  have h63 : (2:Int) ^ (63 - sp) * 2 ^ sp = 9223372036854775808 := by rw [← Int.pow_add, show 63 - sp + sp = 63 by omega]; decide
  have hq1 : (1:Int) ≤ 2 ^ (64 - sp) := hq
  have hqB : (2:Int) ^ (64 - sp) ≤ 18446744073709551616 := by
    have : (2:Int) ^ (64 - sp) * 1 ≤ 2 ^ (64 - sp) * 2 ^ sp := Int.mul_le_mul_of_nonneg_left (by omega) (Int.le_of_lt hq)
    omega
  rw [shl_mod (by omega)]
  generalize a % 2 ^ (64 - sp) = z at *
  have hc : 2 ^ (63 - sp) ≤ z ↔ 9223372036854775808 ≤ z * 2 ^ sp := by
    rw [← h63]
    constructor
    · intro h; exact Int.mul_le_mul_of_nonneg_right h (Int.le_of_lt hpp)
    · intro h; exact Int.le_of_mul_le_mul_right h hpp
  rw [wrap_i64]
  have e1 : z * 2 ^ sp % 18446744073709551616 = z * 2 ^ sp := Int.emod_eq_of_lt hb.1 (by omega)
  rw [e1]
  by_cases h9 : 9223372036854775808 ≤ z * 2 ^ sp
  · rw [if_pos h9, if_pos (hc.2 h9)]
    have e2 : z * 2 ^ sp - 18446744073709551616 = (z - 2 ^ (64 - sp)) * 2 ^ sp := by rw [Int.sub_mul, hp]
    rw [e2, Int.mul_ediv_cancel _ (Int.ne_of_gt hpp)]
    omega
  · rw [if_neg h9, if_neg (fun h => h9 (hc.1 h)), Int.mul_ediv_cancel _ (Int.ne_of_gt hpp)]
    omega
/-- the low p bits of a number of limbs -/
theorem lvr_low {X : List Int} (hX : UL X) {a q : Nat} (ha : a < 4) (hq : q ≤ 64) : lvr X 0 4 % 2 ^ (64 * a + q) = lvr X 0 a + X.getD a 0 % 2 ^ q * 18446744073709551616 ^ a := by
  have hs := lvr_split X 0 a (4 - a)
  rw [show a + (4 - a) = 4 by omega, Nat.zero_add] at hs
  have hh := lvr_head X a (3 - a)
  rw [show 3 - a + 1 = 4 - a by omega] at hh
  have hb := lvr_bd hX 0 a
  have e64 : (2:Int) ^ (64 * a + q) = 18446744073709551616 ^ a * 2 ^ q := by rw [Int.pow_add, Int.pow_mul]; rfl
  have hp := pow64 (r := 64 - q) (by omega)
  rw [show 64 - (64 - q) = q by omega] at hp
  have hpq := pow2_pos q
  have hpa := lpow_pos a
  have hm0 := Int.emod_nonneg (X.getD a 0) (Int.ne_of_gt hpq)
  have hm1 := Int.emod_lt_of_pos (X.getD a 0) hpq
  have hd := Int.mul_ediv_add_emod (X.getD a 0) (2 ^ q)
  have e : lvr X 0 4 = (lvr X 0 a + X.getD a 0 % 2 ^ q * 18446744073709551616 ^ a) + 18446744073709551616 ^ a * 2 ^ q * (X.getD a 0 / 2 ^ q + 2 ^ (64 - q) * lvr X (a + 1) (3 - a)) := by
    rw [hs, hh, Int.mul_assoc, Int.mul_add (2 ^ q), ← Int.mul_assoc (2 ^ q) (2 ^ (64 - q)), hp, ← Int.mul_comm (18446744073709551616 ^ a) (X.getD a 0 % 2 ^ q), Int.add_assoc, ← Int.mul_add, ← Int.add_assoc (X.getD a 0 % 2 ^ q), Int.add_comm (X.getD a 0 % 2 ^ q), hd]
  have hlt : X.getD a 0 % 2 ^ q * 18446744073709551616 ^ a + 18446744073709551616 ^ a ≤ 18446744073709551616 ^ a * 2 ^ q := by
    have : (X.getD a 0 % 2 ^ q + 1) * 18446744073709551616 ^ a ≤ 2 ^ q * 18446744073709551616 ^ a := Int.mul_le_mul_of_nonneg_right hm1 (Int.le_of_lt hpa)
    rw [Int.add_mul, Int.one_mul] at this
    rw [Int.mul_comm (18446744073709551616 ^ a)]; exact this
  have h0 := Int.mul_nonneg hm0 (Int.le_of_lt hpa)
  rw [e64, e, Int.add_mul_emod_self_left, Int.emod_eq_of_lt (by omega) (by omega)]
theorem sext_wn {W X R Y : List Int} (hX : Wd X) (hR : Wd R) (hW : Wd W) {x : Int} (hx : x = wv W ∧ x < 31) (hY : X.set ((8 * x + 7) / 64).toNat (IntKind.i64.wrap (X.getD ((8 * x + 7) / 64).toNat 0 * 2 ^ min (63 - (8 * x + 7) % 64).toNat 64 % 18446744073709551616) / 2 ^ min (63 - (8 * x + 7) % 64).toNat 64 % 18446744073709551616) = Y)
    (hlow : ∀ k : Nat, (k : Int) ≤ (8 * x + 7) / 64 → R.getD k 0 = Y.getD k 0) (hfil : ∀ k : Nat, (8 * x + 7) / 64 < (k : Int) → k < 4 → R.getD k 0 = IntKind.i64.wrap (Y.getD ((8 * x + 7) / 64).toNat 0) / 2 ^ 63 % 18446744073709551616) : wn R = ysext (wn W) (wn X) := by
  have hb := wv_bd hW
  have hw := wn_int hW
  have hXl := hX.1
  obtain ⟨a, ha⟩ : ∃ a : Nat, (8 * x + 7) / 64 = (a : Int) := ⟨((8 * x + 7) / 64).toNat, by omega⟩
  obtain ⟨q, hq⟩ : ∃ q : Nat, (8 * x + 7) % 64 + 1 = (q : Int) := ⟨((8 * x + 7) % 64 + 1).toNat, by omega⟩
  rw [ha] at hY hlow hfil
  rw [Int.toNat_natCast] at hY hfil
  have hxb := wd_get hX a
  rw [show min (63 - (8 * x + 7) % 64).toNat 64 = 64 - q by omega, sx_limb hxb (by omega), show 64 - (64 - q) = q by omega, show 63 - (64 - q) = q - 1 by omega] at hY
  have hya : Y.getD a 0 = if 2 ^ (q - 1) ≤ X.getD a 0 % 2 ^ q then X.getD a 0 % 2 ^ q + 18446744073709551616 - 2 ^ q else X.getD a 0 % 2 ^ q := by rw [← hY, getD_setI, if_pos ⟨rfl, by omega⟩]
  have hpq := pow2_pos q
  have hm0 := Int.emod_nonneg (X.getD a 0) (Int.ne_of_gt hpq)
  have hm1 := Int.emod_lt_of_pos (X.getD a 0) hpq
  have hq2 : (2:Int) ^ q = 2 * 2 ^ (q - 1) := by
    obtain ⟨n, rfl⟩ : ∃ n, q = n + 1 := ⟨q - 1, by omega⟩
    rw [Int.pow_succ, Nat.add_sub_cancel, Int.mul_comm]
  have hqB : (2:Int) ^ q ≤ 18446744073709551616 := by
    have h1 := pow64 (r := 64 - q) (by omega)
    rw [show 64 - (64 - q) = q by omega] at h1
    have h2 := pow2_pos (64 - q)
    have : (2:Int) ^ q * 1 ≤ 2 ^ q * 2 ^ (64 - q) := Int.mul_le_mul_of_nonneg_left (by omega) (Int.le_of_lt hpq)
    omega
  have hyb : 0 ≤ Y.getD a 0 ∧ Y.getD a 0 ≤ 18446744073709551615 := by rw [hya]; split <;> omega
  have hlo : lvr R 0 a = lvr X 0 a := lvr_congr a (fun k hk => by rw [Nat.zero_add, hlow k (by omega), ← hY, getD_setI, if_neg (by omega)])
  have hRa : R.getD a 0 = Y.getD a 0 := hlow a (by omega)
  have hlow2 := lvr_low hX.ulx (a := a) (q := q) (by omega) (by omega)
  have e64 : (2:Int) ^ (64 * a + q) = 2 ^ q * 18446744073709551616 ^ a := by rw [Int.pow_add, Int.pow_mul, Int.mul_comm]; rfl
  have hfl := lvr_fill (R := R) (a := a + 1) (3 - a) (fun j h1 h2 => hfil j (by omega) (by omega))
  rw [show a + 1 + (3 - a) = 4 by omega, i64neg hyb, lvr_succ R 0 a, Nat.zero_add, hlo, hRa, show (18446744073709551616 : Int) ^ 4 = 115792089237316195423570985008687907853269984665640564039457584007913129639936 from by decide, Int.pow_succ] at hfl
  have hp8 : 8 * wn W + 8 = 64 * a + q := by omega
  have hxi := wn_int hX
  have hri := wn_int hR
  rw [wv_lvr hX] at hxi
  rw [wv_lvr hR] at hri
  have hpow : ((2 ^ (8 * wn W + 8) : Nat) : Int) = 2 ^ q * 18446744073709551616 ^ a := by rw [hp8]; rw [← e64]; simp
  have hmod : ((wn X % 2 ^ (8 * wn W + 8) : Nat) : Int) = lvr X 0 a + X.getD a 0 % 2 ^ q * 18446744073709551616 ^ a := by
    rw [Int.natCast_emod, hxi, hpow, ← e64, hlow2]
  have hbit : Nat.testBit (wn X) (8 * wn W + 7) = decide (2 ^ (q - 1) ≤ X.getD a 0 % 2 ^ q) := by
    have h1 : Nat.testBit (wn X) (8 * wn W + 7) = Nat.testBit (wn X % 2 ^ (8 * wn W + 8)) (8 * wn W + 7) := by rw [Nat.testBit_mod_two_pow]; simp
    rw [h1, Nat.testBit_eq_decide_div_mod_eq]
    have hlt := Nat.mod_lt (wn X) (Nat.pow_pos (n := 8 * wn W + 8) (show 0 < 2 by decide))
    generalize hg : wn X % 2 ^ (8 * wn W + 8) = g at *
    have h2 : (2:Nat) ^ (8 * wn W + 8) = 2 * 2 ^ (8 * wn W + 7) := by rw [Nat.pow_succ, Nat.mul_comm]
    have hd : g / 2 ^ (8 * wn W + 7) % 2 = 1 ↔ 2 ^ (8 * wn W + 7) ≤ g := by
      constructor
      · intro h
        rcases Nat.lt_or_ge g (2 ^ (8 * wn W + 7)) with h9 | h9
        · rw [Nat.div_eq_of_lt h9] at h; omega
        · exact h9
      · intro h
        have h3 : g / 2 ^ (8 * wn W + 7) = 1 := by
          apply Nat.div_eq_of_lt_le <;> omega
        rw [h3]
    have h7 : ((2 ^ (8 * wn W + 7) : Nat) : Int) = 2 ^ (q - 1) * 18446744073709551616 ^ a := by
      have : ((2 ^ (8 * wn W + 7) : Nat) : Int) * 2 = 2 ^ q * 18446744073709551616 ^ a := by rw [← hpow, h2]; omega
      rw [hq2] at this
      rw [Int.mul_assoc] at this
      omega
    have hba := lvr_bd hX.ulx 0 a
    have hpa := lpow_pos a
    rw [al_bi]
    simp only [al_ete]
    rw [hd]
    constructor
    · intro h
      rcases Int.lt_or_le (X.getD a 0 % 2 ^ q) (2 ^ (q - 1)) with h9 | h9
      · have : (X.getD a 0 % 2 ^ q + 1) * 18446744073709551616 ^ a ≤ 2 ^ (q - 1) * 18446744073709551616 ^ a := Int.mul_le_mul_of_nonneg_right h9 (Int.le_of_lt hpa)
        rw [Int.add_mul, Int.one_mul] at this
        omega
      · exact h9
    · intro h
      have : 2 ^ (q - 1) * 18446744073709551616 ^ a ≤ X.getD a 0 % 2 ^ q * 18446744073709551616 ^ a := Int.mul_le_mul_of_nonneg_right h (Int.le_of_lt hpa)
      omega
  unfold ysext
  rw [if_pos (by omega), hbit]
  have hple : 2 ^ (8 * wn W + 8) ≤ 115792089237316195423570985008687907853269984665640564039457584007913129639936 := by
    have : (115792089237316195423570985008687907853269984665640564039457584007913129639936 : Nat) = 2 ^ 256 := rfl
    rw [this]; exact Nat.pow_le_pow_right (by decide) (by omega)
  clear hbit
  generalize wn X % 2 ^ (8 * wn W + 8) = g at *
  generalize (2:Nat) ^ (8 * wn W + 8) = PW at *
  by_cases h9 : 2 ^ (q - 1) ≤ X.getD a 0 % 2 ^ q
  · rw [if_pos (al_et h9)]
    rw [if_pos h9] at hya
    rw [if_pos (by omega)] at hfl
    have e5 : (X.getD a 0 % 2 ^ q + 18446744073709551616 - 2 ^ q) * 18446744073709551616 ^ a = X.getD a 0 % 2 ^ q * 18446744073709551616 ^ a + 18446744073709551616 * 18446744073709551616 ^ a - 2 ^ q * 18446744073709551616 ^ a := by rw [Int.sub_mul, Int.add_mul]
    rw [hya, e5] at hfl
    clear hya hm0 hm1 hyb hRa hlow hfil hY hlo
    generalize X.getD a 0 % 2 ^ q * 18446744073709551616 ^ a = zE at *
    generalize 2 ^ q * 18446744073709551616 ^ a = qE at *
    generalize (18446744073709551616 : Int) ^ a = E at *
    omega
  · rw [if_neg (by simpa using h9)]
    rw [if_neg h9] at hya
    rw [if_neg (by omega)] at hfl
    rw [hya] at hfl
    omega

set_option maxRecDepth 10000 in
theorem shl_ex (W X : List Int) (w : World) (hW : Wd W) (hX : Wd X) : Ret Hvac.prog 263 #[.agg (ic .u64 W), .agg (ic .u64 X)] w fun u w' => Ext w w' ∧ ∃ R, u = .agg (ic .u64 R) ∧ Wd R ∧ wn R = yshift 27 (wn W) (wn X) := by
  have hWl := hW.1
  have hXl := hX.1
  refine Ret_of_W Hvac.func263 rfl rfl ?_
  refine W_seq ?_
  refine W_region rfl ?_
  refine WO_box (.agg _) rfl ?_
  refine WO_box (.agg _) rfl ?_
  refine WO_alloc Hvac.zeroValue61 ?_
  refine WO_nil ?_
  refine thn_normal ?_
  refine W_seq ?_
  refine W_region rfl ?_
  refine WO_loadA _ Hvac.isAgg61 Hvac.sizeOf61 rfl (Hb.h (by repeat (first | assumption | exact Hb.newY _ _ | refine Hb.alloc ?_ | refine Hb.drew ?_ | refine Hb.ext (by assumption) ?_ | exact Hb.setSameL (by first | omega | (simp only [size_alloc, size_setB, size_drew]; omega)) | exact Hb.setSame (by assumption) | refine Hb.set (by first | omega | (simp only [size_alloc, size_setB, size_drew]; omega)) ?_ ))) (by first | omega | assumption | rfl | decide | exact Nat.le_refl _ | (simp only [size_ic, Value.cells]; omega) | (simp; omega) | simp) (Xt.h (by first | assumption | exact Xt.whole rfl rfl | exact Xt.whole rfl (by assumption) | exact Xt.whole rfl (by simp only [size_ic, Value.cells]; omega) | exact ⟨rfl⟩)) ?_
  refine WO_call Hvac.call345 (by rfl) (Ret.mono (below_ex W 256 _ hW (by decide)) ?_)
  rintro _ w1 ⟨hE1, x, q, rfl, hx, hq, hqf⟩
  have hz1 := hE1.1
  simp only [size_alloc] at hz1
  refine WO_p (PS_move_tuple rfl) ?_
  refine WO_p (PS_extract_int rfl rfl) ?_
  refine WO_p (PS_extract_bool rfl rfl) ?_
  refine WO_p (PS_assign_int rfl) ?_
  refine WO_p (PS_assign_bool rfl) ?_
  refine WO_nil ?_
  refine thn_normal ?_
  refine W_seq ?_
  refine W_seq ?_
  refine W_region rfl ?_
  refine WO_p (PS_move_bool rfl) ?_
  refine WO_p (PS_not rfl) ?_
  refine WO_nil ?_
  refine thn_normal ?_
  refine W_if rfl (fun hb4 => ?_) (fun hb4 => ?_)
  · have hb4p := hb4.h; try simp only [al_ete, al_dfn, Bool.not_eq_true', Bool.not_eq_false', al_ne, Bool.not_not, al_nn] at hb4p
    have hx256 := hqf hb4p
    refine W_seq ?_
    refine W_region rfl ?_
    refine WO_p (PS_buildI (k := .u64) (zs := [0, 0, 0, 0]) (ps := []) (L := [0, 0, 0, 0]) Hvac.zeroValue61 Hvac.runUnderlying61 Hvac.sizeOf26 rfl rfl rfl rfl) ?_
    first | refine WO_storeW Hvac.sizeOf61 rfl (v := .agg _) rfl (Hb.h (by repeat (first | assumption | exact Hb.newY _ _ | refine Hb.alloc ?_ | refine Hb.drew ?_ | refine Hb.ext (by assumption) ?_ | exact Hb.setSameL (by first | omega | (simp only [size_alloc, size_setB, size_drew]; omega)) | exact Hb.setSame (by assumption) | refine Hb.set (by first | omega | (simp only [size_alloc, size_setB, size_drew]; omega)) ?_ ))) rfl (by first | omega | assumption | rfl | decide | exact Nat.le_refl _ | (simp only [size_ic, Value.cells]; omega) | (simp; omega) | simp) (by first | omega | assumption | rfl | decide | exact Nat.le_refl _ | (simp only [size_ic, Value.cells]; omega) | (simp; omega) | simp) (by first | exact oneCell_ic | assumption | exact one_Ws2 _ | exact one_YA2 _ | exact one_YSl2 _ | exact one_YM2 _ | exact one_YT2 _ | exact one_L2 _) ?_ | refine WO_store Hvac.sizeOf61 rfl (v := .agg _) rfl (Hb.h (by repeat (first | assumption | exact Hb.newY _ _ | refine Hb.alloc ?_ | refine Hb.drew ?_ | refine Hb.ext (by assumption) ?_ | exact Hb.setSameL (by first | omega | (simp only [size_alloc, size_setB, size_drew]; omega)) | exact Hb.setSame (by assumption) | refine Hb.set (by first | omega | (simp only [size_alloc, size_setB, size_drew]; omega)) ?_ ))) (by first | omega | assumption | rfl | decide | exact Nat.le_refl _ | (simp only [size_ic, Value.cells]; omega) | (simp; omega) | simp) (by first | omega | assumption | rfl | decide | exact Nat.le_refl _ | (simp only [size_ic, Value.cells]; omega) | (simp; omega) | simp) (by first | exact oneCell_ic | assumption | exact one_Ws2 _ | exact one_YA2 _ | exact one_YSl2 _ | exact one_YM2 _ | exact one_YT2 _ | exact one_L2 _) ?_
    refine WO_nil ?_
    refine thn_normal ?_
    refine W_ret ?_
    refine thn_ret ?_
    refine bodyQ_cell1 Hvac.results263 rfl Hvac.isAgg61 Hvac.sizeOf61 rfl (Hb.h (by repeat (first | assumption | exact Hb.newY _ _ | refine Hb.alloc ?_ | refine Hb.drew ?_ | refine Hb.ext (by assumption) ?_ | exact Hb.setSameL (by first | omega | (simp only [size_alloc, size_setB, size_drew]; omega)) | exact Hb.setSame (by assumption) | refine Hb.set (by first | omega | (simp only [size_alloc, size_setB, size_drew]; omega)) ?_ ))) (by first | omega | assumption | rfl | decide | exact Nat.le_refl _ | (simp only [size_ic, Value.cells]; omega) | (simp; omega) | simp) ?_
    first
    | exact ⟨(by repeat (first | assumption | exact Ext.refl _ | refine Ext.alloc ?_ _ | refine Ext.drew ?_ | refine Ext.setB ?_ (by first | omega | (simp only [size_alloc, size_setB, size_drew]; omega)) _ | refine Ext.trans ?_ (by assumption))), _, rfl, Wd0, shl_wn0 hW hx256⟩
    | exact ⟨(by repeat (first | assumption | exact Ext.refl _ | refine Ext.alloc ?_ _ | refine Ext.drew ?_ | refine Ext.setB ?_ (by first | omega | (simp only [size_alloc, size_setB, size_drew]; omega)) _ | refine Ext.trans ?_ (by assumption))), _, rfl, hR, shl_wn hX hR hW hx256 (c := cc) (by rw [show i.toNat = 4 by omega] at hlv; exact hlv)⟩
  · have hb4p := hb4.h; try simp only [al_ete, al_dfn, Bool.not_eq_true', Bool.not_eq_false', al_ne, Bool.not_not, al_nn] at hb4p
    have hx256 := hq hb4p
    refine W_skip ?_
    refine thn_normal ?_
    refine W_seq ?_
    refine W_region rfl ?_
    refine WO_alloc Hvac.zeroValue61 ?_
    refine WO_nil ?_
    refine thn_normal ?_
    refine W_seq ?_
    refine W_seq ?_
    refine W_region rfl ?_
    refine WO_p (PS_move_int rfl) ?_
    refine WO_p (PS_quo_u64 rfl rfl (by omega) (by omega) (by omega)) ?_
    refine WO_p (PS_assign_int rfl) ?_
    refine WO_nil ?_
    refine thn_normal ?_
    refine W_block ?_
    refine W_loopN (fun m ρ w' => ∃ (i : Int) (R : List Int) (cc : Int), Wd R ∧ x / 64 ≤ i ∧ i + m = 4 ∧ (lvr R 0 i.toNat + cc * 18446744073709551616 ^ i.toNat = lvr X 0 (i.toNat - (x / 64).toNat) * (2 ^ (x % 64).toNat * 18446744073709551616 ^ (x / 64).toNat) ∧ (i = x / 64 → cc = 0) ∧ (x / 64 < i → cc = X.getD (i - x / 64 - 1).toNat 0 / 2 ^ (64 - (x % 64).toNat))) ∧ Fr [(3, .pointer (some ⟨(w.alloc (.cells (Value.agg (ic .u64 W)).cells 61)).heap.size, 0, none⟩)), (4, .pointer (some ⟨((w.alloc (.cells (Value.agg (ic .u64 W)).cells 61)).alloc (.cells (Value.agg (ic .u64 X)).cells 61)).heap.size, 0, none⟩)), (5, .int .u64 x), (7, .pointer (some ⟨w1.heap.size, 0, none⟩)), (8, .int .u64 i)] ρ ∧ Ext w w' ∧ Hb w' ((w.alloc (.cells (Value.agg (ic .u64 W)).cells 61)).heap.size) (.cells (ic .u64 X) 61 (0, 0)) ∧ Hb w' (((w.alloc (.cells (Value.agg (ic .u64 W)).cells 61)).alloc (.cells (Value.agg (ic .u64 X)).cells 61)).heap.size) (.cells (ic .u64 [0, 0, 0, 0]) 61 (0, 0)) ∧ Hb w' w1.heap.size (.cells (ic .u64 R) 61 (0, 0))) (4 - x / 64).toNat ?_ ?_
    · exact ⟨x / 64, [0, 0, 0, 0], 0, Wd0, by omega, by omega, ⟨by rw [Nat.sub_self]; have hz0 : ∀ n, lvr [0, 0, 0, 0] 0 n = 0 := fun n => lvr_zero4 n; rw [hz0]; simp [lvr], fun _ => rfl, fun h => by omega⟩, ⟨rfl, rfl, rfl, rfl, rfl, trivial⟩, Ext.alloc (Ext.trans (Ext.alloc (Ext.alloc (Ext.alloc (Ext.refl w) _) _) _) hE1) _, Hb.alloc (Hb.ext hE1 (Hb.alloc (Hb.newY _ _))), Hb.alloc (Hb.ext hE1 (Hb.newY _ _)), Hb.newY _ _⟩
    intro m ρ w2 hI
    obtain ⟨i, R, cc, hR, hi0, him, ⟨hlv, hc0, hc1⟩, hF, hE2, hX2, hR0, hV2⟩ := hI
    clear hE1
    have hRl := hR.1
    refine W_env _ hF ?_
    refine W_seq ?_
    refine W_seq ?_
    refine W_region rfl ?_
    refine WO_p (PS_move_int rfl) ?_
    refine WO_p (PS_lss rfl rfl) ?_
    refine WO_nil ?_
    refine thn_normal ?_
    refine W_if rfl (fun hb6 => ?_) (fun hb6 => ?_)
    · have hb6p := hb6.h; try simp only [al_ete, al_dfn, Bool.not_eq_true', Bool.not_eq_false', al_ne, Bool.not_not, al_nn] at hb6p
      have hce : Ce (ic .u64 X) (0 + (i - x / 64).toNat * 1) (.int .u64 (X.getD (i - x / 64).toNat 0)) := ce_ic (by omega)
      have hxb := wd_get hX (i - x / 64).toNat
      refine W_skip ?_
      refine thn_normal ?_
      refine W_seq ?_
      refine W_block ?_
      refine W_seq ?_
      refine W_region rfl ?_
      refine WO_p (PS_move_int rfl) ?_
      refine WO_p (PS_move_int rfl) ?_
      refine WO_p (PS_move_int rfl) ?_
      refine WO_p (PS_quo_u64 rfl rfl (by omega) (by omega) (by omega)) ?_
      refine WO_p (PS_sub_u64n rfl rfl (by omega) (by omega)) ?_
      refine WO_p (PS_indexA Hvac.runUnderlying61 Hvac.sizeOf26 rfl rfl (by omega) (by omega)) ?_
      refine WO_load (.int _ _) Hvac.isAgg26 rfl (Hb.h (by repeat (first | assumption | exact Hb.newY _ _ | refine Hb.alloc ?_ | refine Hb.drew ?_ | refine Hb.ext (by assumption) ?_ | exact Hb.setSameL (by first | omega | (simp only [size_alloc, size_setB, size_drew]; omega)) | exact Hb.setSame (by assumption) | refine Hb.set (by first | omega | (simp only [size_alloc, size_setB, size_drew]; omega)) ?_ ))) (Ce.h (by first | assumption | exact ⟨rfl⟩)) ?_
      refine WO_p (PS_move_int rfl) ?_
      refine WO_p (PS_rem_u64 rfl rfl (by omega) (by omega)) ?_
      refine WO_p (PS_shl_u64 _ rfl rfl (by omega) rfl) ?_
      refine WO_p (PS_indexA Hvac.runUnderlying61 Hvac.sizeOf26 rfl rfl (by omega) (by omega)) ?_
      refine WO_store1 Hvac.sizeOf26 rfl (v := .int _ _) rfl hV2.h rfl (by rw [size_ic]; omega) rfl ?_
      rw [ic_set]
      have hR2 := wd_set hR i.toNat (shl_bd (X.getD (i - x / 64).toNat 0) (min (x % 64).toNat 64))
      have hn := Hb.set (w := w2) (b := w1.heap.size) (o' := .cells (ic .u64 (R.set i.toNat (X.getD (i - x / 64).toNat 0 * 2 ^ (min (x % 64).toNat 64) % 18446744073709551616))) 61 (0, 0)) (by simp only [size_alloc]; omega) hX2
      have hnR := Hb.set (w := w2) (b := w1.heap.size) (o' := .cells (ic .u64 (R.set i.toNat (X.getD (i - x / 64).toNat 0 * 2 ^ (min (x % 64).toNat 64) % 18446744073709551616))) 61 (0, 0)) (by simp only [size_alloc]; omega) hR0
      have hnV := Hb.setSame (o' := .cells (ic .u64 (R.set i.toNat (X.getD (i - x / 64).toNat 0 * 2 ^ (min (x % 64).toNat 64) % 18446744073709551616))) 61 (0, 0)) hV2
      refine WO_nil ?_
      refine thn_normal ?_
      refine W_seq ?_
      refine W_region rfl ?_
      refine WO_p (PS_move_int rfl) ?_
      refine WO_p (PS_move_int rfl) ?_
      refine WO_p (PS_quo_u64 rfl rfl (by omega) (by omega) (by omega)) ?_
      refine WO_p (PS_gtr rfl rfl) ?_
      refine WO_nil ?_
      refine thn_normal ?_
      refine W_if rfl (fun hb8 => ?_) (fun hb8 => ?_)
      · have hb8p := hb8.h; try simp only [al_ete, al_dfn, Bool.not_eq_true', Bool.not_eq_false', al_ne, Bool.not_not, al_nn] at hb8p
        have hce2 : Ce (ic .u64 (R.set i.toNat (X.getD (i - x / 64).toNat 0 * 2 ^ (min (x % 64).toNat 64) % 18446744073709551616))) (0 + i.toNat * 1) (.int .u64 ((R.set i.toNat (X.getD (i - x / 64).toNat 0 * 2 ^ (min (x % 64).toNat 64) % 18446744073709551616)).getD i.toNat 0)) := ce_ic (by rw [List.length_set]; omega)
        have hce3 : Ce (ic .u64 X) (0 + (i - x / 64 - 1).toNat * 1) (.int .u64 (X.getD (i - x / 64 - 1).toNat 0)) := ce_ic (by omega)
        have hxb3 := wd_get hX (i - x / 64 - 1).toNat
        have hi9 := hb8p
        refine W_drawE [false, false, false, false, false, false, false, false, false, false, false, false, false, false, false, false, false] hmix (by kernel_rfl) rfl ?_
        refine WH_p (PS_move_int rfl) rfl ?_
        refine WH_p (PS_indexA Hvac.runUnderlying61 Hvac.sizeOf26 rfl rfl (by omega) (by omega)) rfl ?_
        refine WH_load (.int _ _) Hvac.isAgg26 rfl (Hb.h (by repeat (first | assumption | exact Hb.newY _ _ | refine Hb.alloc ?_ | refine Hb.drew ?_ | refine Hb.ext (by assumption) ?_ | exact Hb.setSameL (by first | omega | (simp only [size_alloc, size_setB, size_drew]; omega)) | exact Hb.setSame (by assumption) | refine Hb.set (by first | omega | (simp only [size_alloc, size_setB, size_drew]; omega)) ?_ ))) (Ce.h (by first | assumption | exact ⟨rfl⟩)) ?_
        refine WH_p (PS_move_int rfl) rfl ?_
        refine WH_p (PS_move_int rfl) rfl ?_
        refine WH_p (PS_quo_u64 rfl rfl (by omega) (by omega) (by omega)) rfl ?_
        refine WH_p (PS_sub_u64n rfl rfl (by omega) (by omega)) rfl ?_
        refine WH_p (PS_sub_u64n rfl rfl (by omega) (by omega)) rfl ?_
        refine WH_p (PS_indexA Hvac.runUnderlying61 Hvac.sizeOf26 rfl rfl (by omega) (by omega)) rfl ?_
        refine WH_load (.int _ _) Hvac.isAgg26 rfl (Hb.h (by repeat (first | assumption | exact Hb.newY _ _ | refine Hb.alloc ?_ | refine Hb.drew ?_ | refine Hb.ext (by assumption) ?_ | exact Hb.setSameL (by first | omega | (simp only [size_alloc, size_setB, size_drew]; omega)) | exact Hb.setSame (by assumption) | refine Hb.set (by first | omega | (simp only [size_alloc, size_setB, size_drew]; omega)) ?_ ))) (Ce.h (by first | assumption | exact ⟨rfl⟩)) ?_
        refine WH_p (PS_move_int rfl) rfl ?_
        refine WH_p (PS_rem_u64 rfl rfl (by omega) (by omega)) rfl ?_
        refine WH_p (PS_sub_u64n rfl rfl (by omega) (by omega)) rfl ?_
        refine WH_p (PS_shr_u64 _ rfl rfl (by omega) rfl) rfl ?_
        refine WH_p (PS_or_u64 rfl rfl) rfl ?_
        refine WH_p (PS_indexA Hvac.runUnderlying61 Hvac.sizeOf26 rfl rfl (by omega) (by omega)) rfl ?_
        refine WH_store1 Hvac.sizeOf26 rfl (v := .int _ _) rfl hnV.drew.h rfl (by rw [size_ic, List.length_set]; omega) rfl (fun h => by cases h) ?_
        rw [ic_set]
        refine WH_nil ?_
        refine inBlk_normal ?_
        refine thn_normal ?_
        refine W_region rfl ?_
        refine WO_p (PS_move_int rfl) ?_
        refine WO_p (PS_add_u64n rfl rfl (by omega) (by omega)) ?_
        refine WO_p (PS_assign_int rfl) ?_
        refine WO_nil ?_
        refine thn_normal ?_
        have hi8 : (i + 1).toNat = i.toNat + 1 := by omega
        have hik : i.toNat - (x / 64).toNat = (i - x / 64).toNat := by omega
        have hik2 : (i + 1 - x / 64 - 1).toNat = (i - x / 64).toNat := by omega
        have hmn : min (x % 64).toNat 64 = (x % 64).toNat := by omega
        first
        | exact ⟨m - 1, by omega, i + 1, _, _, hR2, by omega, by omega, ⟨by rw [hi8]; exact shl_step (by omega) (by omega) (by omega) hlv (by rw [hc0 (by omega), hik, hmn, shl_mod (by omega)]; omega), fun h => by omega, fun _ => by rw [hik, hik2]⟩, ⟨rfl, rfl, rfl, rfl, rfl, trivial⟩, Ext.setB hE2 (by omega) _, hn, hnR, hnV⟩
        | exact ⟨m - 1, by omega, i + 1, _, _, wd_set hR2 i.toNat (bOr_bd _ _), by omega, by omega, ⟨by rw [hi8, List.set_set]; exact shl_step (by omega) (by omega) (by omega) hlv (by rw [hc1 (by omega), getD_setI, if_pos ⟨rfl, by omega⟩, hmn, show min (64 - x % 64).toNat 64 = 64 - (x % 64).toNat by omega, or_up (by omega) (div_pow_bd (by omega) hxb3), hik]), fun h => by omega, fun _ => by rw [hik, hik2]⟩, ⟨rfl, rfl, rfl, rfl, rfl, trivial⟩, Ext.setB (Ext.drew (Ext.setB hE2 (by omega) _)) (by omega) _, Hb.set (by simp only [size_alloc]; omega) hn.drew, Hb.set (by simp only [size_alloc]; omega) hnR.drew, Hb.setSame hnV.drew⟩
      · have hb8p := hb8.h; try simp only [al_ete, al_dfn, Bool.not_eq_true', Bool.not_eq_false', al_ne, Bool.not_not, al_nn] at hb8p
        have hi9 := hb8p
        refine W_skip ?_
        refine inBlk_normal ?_
        refine thn_normal ?_
        refine W_region rfl ?_
        refine WO_p (PS_move_int rfl) ?_
        refine WO_p (PS_add_u64n rfl rfl (by omega) (by omega)) ?_
        refine WO_p (PS_assign_int rfl) ?_
        refine WO_nil ?_
        refine thn_normal ?_
        have hi8 : (i + 1).toNat = i.toNat + 1 := by omega
        have hik : i.toNat - (x / 64).toNat = (i - x / 64).toNat := by omega
        have hik2 : (i + 1 - x / 64 - 1).toNat = (i - x / 64).toNat := by omega
        have hmn : min (x % 64).toNat 64 = (x % 64).toNat := by omega
        first
        | exact ⟨m - 1, by omega, i + 1, _, _, hR2, by omega, by omega, ⟨by rw [hi8]; exact shl_step (by omega) (by omega) (by omega) hlv (by rw [hc0 (by omega), hik, hmn, shl_mod (by omega)]; omega), fun h => by omega, fun _ => by rw [hik, hik2]⟩, ⟨rfl, rfl, rfl, rfl, rfl, trivial⟩, Ext.setB hE2 (by omega) _, hn, hnR, hnV⟩
        | exact ⟨m - 1, by omega, i + 1, _, _, wd_set hR2 i.toNat (bOr_bd _ _), by omega, by omega, ⟨by rw [hi8, List.set_set]; exact shl_step (by omega) (by omega) (by omega) hlv (by rw [hc1 (by omega), getD_setI, if_pos ⟨rfl, by omega⟩, hmn, show min (64 - x % 64).toNat 64 = 64 - (x % 64).toNat by omega, or_up (by omega) (div_pow_bd (by omega) hxb3), hik]), fun h => by omega, fun _ => by rw [hik, hik2]⟩, ⟨rfl, rfl, rfl, rfl, rfl, trivial⟩, Ext.setB (Ext.drew (Ext.setB hE2 (by omega) _)) (by omega) _, Hb.set (by simp only [size_alloc]; omega) hn.drew, Hb.set (by simp only [size_alloc]; omega) hnR.drew, Hb.setSame hnV.drew⟩
    · have hb6p := hb6.h; try simp only [al_ete, al_dfn, Bool.not_eq_true', Bool.not_eq_false', al_ne, Bool.not_not, al_nn] at hb6p
      refine W_exit ?_
      refine thn_exit ?_
      refine thn_exit ?_
      refine inBlk_exit ?_
      refine thn_normal ?_
      refine W_seq ?_
      refine W_region rfl ?_
      refine WO_loadA _ Hvac.isAgg61 Hvac.sizeOf61 rfl (Hb.h (by repeat (first | assumption | exact Hb.newY _ _ | refine Hb.alloc ?_ | refine Hb.drew ?_ | refine Hb.ext (by assumption) ?_ | exact Hb.setSameL (by first | omega | (simp only [size_alloc, size_setB, size_drew]; omega)) | exact Hb.setSame (by assumption) | refine Hb.set (by first | omega | (simp only [size_alloc, size_setB, size_drew]; omega)) ?_ ))) (by first | omega | assumption | rfl | decide | exact Nat.le_refl _ | (simp only [size_ic, Value.cells]; omega) | (simp; omega) | simp) (Xt.h (by first | assumption | exact Xt.whole rfl rfl | exact Xt.whole rfl (by assumption) | exact Xt.whole rfl (by simp only [size_ic, Value.cells]; omega) | exact ⟨rfl⟩)) ?_
      first | refine WO_storeW Hvac.sizeOf61 rfl (v := .agg _) rfl (Hb.h (by repeat (first | assumption | exact Hb.newY _ _ | refine Hb.alloc ?_ | refine Hb.drew ?_ | refine Hb.ext (by assumption) ?_ | exact Hb.setSameL (by first | omega | (simp only [size_alloc, size_setB, size_drew]; omega)) | exact Hb.setSame (by assumption) | refine Hb.set (by first | omega | (simp only [size_alloc, size_setB, size_drew]; omega)) ?_ ))) rfl (by first | omega | assumption | rfl | decide | exact Nat.le_refl _ | (simp only [size_ic, Value.cells]; omega) | (simp; omega) | simp) (by first | omega | assumption | rfl | decide | exact Nat.le_refl _ | (simp only [size_ic, Value.cells]; omega) | (simp; omega) | simp) (by first | exact oneCell_ic | assumption | exact one_Ws2 _ | exact one_YA2 _ | exact one_YSl2 _ | exact one_YM2 _ | exact one_YT2 _ | exact one_L2 _) ?_ | refine WO_store Hvac.sizeOf61 rfl (v := .agg _) rfl (Hb.h (by repeat (first | assumption | exact Hb.newY _ _ | refine Hb.alloc ?_ | refine Hb.drew ?_ | refine Hb.ext (by assumption) ?_ | exact Hb.setSameL (by first | omega | (simp only [size_alloc, size_setB, size_drew]; omega)) | exact Hb.setSame (by assumption) | refine Hb.set (by first | omega | (simp only [size_alloc, size_setB, size_drew]; omega)) ?_ ))) (by first | omega | assumption | rfl | decide | exact Nat.le_refl _ | (simp only [size_ic, Value.cells]; omega) | (simp; omega) | simp) (by first | omega | assumption | rfl | decide | exact Nat.le_refl _ | (simp only [size_ic, Value.cells]; omega) | (simp; omega) | simp) (by first | exact oneCell_ic | assumption | exact one_Ws2 _ | exact one_YA2 _ | exact one_YSl2 _ | exact one_YM2 _ | exact one_YT2 _ | exact one_L2 _) ?_
      refine WO_nil ?_
      refine thn_normal ?_
      refine W_ret ?_
      refine bodyQ_cell1 Hvac.results263 rfl Hvac.isAgg61 Hvac.sizeOf61 rfl (Hb.h (by repeat (first | assumption | exact Hb.newY _ _ | refine Hb.alloc ?_ | refine Hb.drew ?_ | refine Hb.ext (by assumption) ?_ | exact Hb.setSameL (by first | omega | (simp only [size_alloc, size_setB, size_drew]; omega)) | exact Hb.setSame (by assumption) | refine Hb.set (by first | omega | (simp only [size_alloc, size_setB, size_drew]; omega)) ?_ ))) (by first | omega | assumption | rfl | decide | exact Nat.le_refl _ | (simp only [size_ic, Value.cells]; omega) | (simp; omega) | simp) ?_
      first
      | exact ⟨(by repeat (first | assumption | exact Ext.refl _ | refine Ext.alloc ?_ _ | refine Ext.drew ?_ | refine Ext.setB ?_ (by first | omega | (simp only [size_alloc, size_setB, size_drew]; omega)) _ | refine Ext.trans ?_ (by assumption))), _, rfl, Wd0, shl_wn0 hW hx256⟩
      | exact ⟨(by repeat (first | assumption | exact Ext.refl _ | refine Ext.alloc ?_ _ | refine Ext.drew ?_ | refine Ext.setB ?_ (by first | omega | (simp only [size_alloc, size_setB, size_drew]; omega)) _ | refine Ext.trans ?_ (by assumption))), _, rfl, hR, shl_wn hX hR hW hx256 (c := cc) (by rw [show i.toNat = 4 by omega] at hlv; exact hlv)⟩


set_option maxRecDepth 10000 in
theorem down_ex (W X : List Int) (f : Int) (w : World) (hW : Wd W) (hX : Wd X) (hf : 0 ≤ f ∧ f ≤ 18446744073709551615) : Ret Hvac.prog 347 #[.agg (ic .u64 W), .agg (ic .u64 X), .int .u64 f] w fun u w' => Ext w w' ∧ ∃ R, u = .agg (ic .u64 R) ∧ Wd R ∧ DnP W X R f := by
  have hWl := hW.1
  have hXl := hX.1
  have hF4 : Wd [f, f, f, f] := wd4 hf hf hf hf
  refine Ret_of_W Hvac.func347 rfl rfl ?_
  refine W_seq ?_
  refine W_region rfl ?_
  refine WO_box (.agg _) rfl ?_
  refine WO_box (.agg _) rfl ?_
  refine WO_alloc Hvac.zeroValue61 ?_
  refine WO_nil ?_
  refine thn_normal ?_
  refine W_seq ?_
  refine W_region rfl ?_
  refine WO_p (PS_move_int rfl) ?_
  refine WO_p (PS_move_int rfl) ?_
  refine WO_p (PS_move_int rfl) ?_
  refine WO_p (PS_move_int rfl) ?_
  refine WO_p (PS_buildI (k := .u64) (zs := [0, 0, 0, 0]) (ps := [(0, _), (1, _), (2, _), (3, _)]) (L := [_, _, _, _]) Hvac.zeroValue61 Hvac.runUnderlying61 Hvac.sizeOf26 rfl rfl rfl rfl) ?_
  refine WO_alloc Hvac.zeroValue61 ?_
  first | refine WO_storeW Hvac.sizeOf61 rfl (v := .agg _) rfl (Hb.h (by repeat (first | assumption | exact Hb.newY _ _ | refine Hb.alloc ?_ | refine Hb.drew ?_ | refine Hb.ext (by assumption) ?_ | exact Hb.setSameL (by first | omega | (simp only [size_alloc, size_setB, size_drew]; omega)) | exact Hb.setSame (by assumption) | refine Hb.set (by first | omega | (simp only [size_alloc, size_setB, size_drew]; omega)) ?_ ))) rfl (by first | omega | assumption | rfl | decide | exact Nat.le_refl _ | (simp only [size_ic, Value.cells]; omega) | (simp; omega) | simp) (by first | omega | assumption | rfl | decide | exact Nat.le_refl _ | (simp only [size_ic, Value.cells]; omega) | (simp; omega) | simp) (by first | exact oneCell_ic | assumption | exact one_Ws2 _ | exact one_YA2 _ | exact one_YSl2 _ | exact one_YM2 _ | exact one_YT2 _ | exact one_L2 _) ?_ | refine WO_store Hvac.sizeOf61 rfl (v := .agg _) rfl (Hb.h (by repeat (first | assumption | exact Hb.newY _ _ | refine Hb.alloc ?_ | refine Hb.drew ?_ | refine Hb.ext (by assumption) ?_ | exact Hb.setSameL (by first | omega | (simp only [size_alloc, size_setB, size_drew]; omega)) | exact Hb.setSame (by assumption) | refine Hb.set (by first | omega | (simp only [size_alloc, size_setB, size_drew]; omega)) ?_ ))) (by first | omega | assumption | rfl | decide | exact Nat.le_refl _ | (simp only [size_ic, Value.cells]; omega) | (simp; omega) | simp) (by first | omega | assumption | rfl | decide | exact Nat.le_refl _ | (simp only [size_ic, Value.cells]; omega) | (simp; omega) | simp) (by first | exact oneCell_ic | assumption | exact one_Ws2 _ | exact one_YA2 _ | exact one_YSl2 _ | exact one_YM2 _ | exact one_YT2 _ | exact one_L2 _) ?_
  refine WO_nil ?_
  refine thn_normal ?_
  refine W_seq ?_
  refine W_region rfl ?_
  refine WO_loadA _ Hvac.isAgg61 Hvac.sizeOf61 rfl (Hb.h (by repeat (first | assumption | exact Hb.newY _ _ | refine Hb.alloc ?_ | refine Hb.drew ?_ | refine Hb.ext (by assumption) ?_ | exact Hb.setSameL (by first | omega | (simp only [size_alloc, size_setB, size_drew]; omega)) | exact Hb.setSame (by assumption) | refine Hb.set (by first | omega | (simp only [size_alloc, size_setB, size_drew]; omega)) ?_ ))) (by first | omega | assumption | rfl | decide | exact Nat.le_refl _ | (simp only [size_ic, Value.cells]; omega) | (simp; omega) | simp) (Xt.h (by first | assumption | exact Xt.whole rfl rfl | exact Xt.whole rfl (by assumption) | exact Xt.whole rfl (by simp only [size_ic, Value.cells]; omega) | exact ⟨rfl⟩)) ?_
  refine WO_call Hvac.call345 (by rfl) (Ret.mono (below_ex W 256 _ hW (by decide)) ?_)
  rintro _ w1 ⟨hE1, x, q, rfl, hx, hq, hqf⟩
  have hz1 := hE1.1
  simp only [size_alloc, size_setB] at hz1
  refine WO_p (PS_move_tuple rfl) ?_
  refine WO_p (PS_extract_int rfl rfl) ?_
  refine WO_p (PS_extract_bool rfl rfl) ?_
  refine WO_p (PS_assign_int rfl) ?_
  refine WO_p (PS_assign_bool rfl) ?_
  refine WO_nil ?_
  refine thn_normal ?_
  refine W_seq ?_
  refine W_seq ?_
  refine W_region rfl ?_
  refine WO_p (PS_move_bool rfl) ?_
  refine WO_p (PS_not rfl) ?_
  refine WO_nil ?_
  refine thn_normal ?_
  refine W_if rfl (fun hb4 => ?_) (fun hb4 => ?_)
  · have hb4p := hb4.h; try simp only [al_ete, al_dfn, Bool.not_eq_true', Bool.not_eq_false', al_ne, Bool.not_not, al_nn] at hb4p
    have hx256 := hqf hb4p
    refine W_seq ?_
    refine W_region rfl ?_
    refine WO_loadA _ Hvac.isAgg61 Hvac.sizeOf61 rfl (Hb.h (by repeat (first | assumption | exact Hb.newY _ _ | refine Hb.alloc ?_ | refine Hb.drew ?_ | refine Hb.ext (by assumption) ?_ | exact Hb.setSameL (by first | omega | (simp only [size_alloc, size_setB, size_drew]; omega)) | exact Hb.setSame (by assumption) | refine Hb.set (by first | omega | (simp only [size_alloc, size_setB, size_drew]; omega)) ?_ ))) (by first | omega | assumption | rfl | decide | exact Nat.le_refl _ | (simp only [size_ic, Value.cells]; omega) | (simp; omega) | simp) (Xt.h (by first | assumption | exact Xt.whole rfl rfl | exact Xt.whole rfl (by assumption) | exact Xt.whole rfl (by simp only [size_ic, Value.cells]; omega) | exact ⟨rfl⟩)) ?_
    first | refine WO_storeW Hvac.sizeOf61 rfl (v := .agg _) rfl (Hb.h (by repeat (first | assumption | exact Hb.newY _ _ | refine Hb.alloc ?_ | refine Hb.drew ?_ | refine Hb.ext (by assumption) ?_ | exact Hb.setSameL (by first | omega | (simp only [size_alloc, size_setB, size_drew]; omega)) | exact Hb.setSame (by assumption) | refine Hb.set (by first | omega | (simp only [size_alloc, size_setB, size_drew]; omega)) ?_ ))) rfl (by first | omega | assumption | rfl | decide | exact Nat.le_refl _ | (simp only [size_ic, Value.cells]; omega) | (simp; omega) | simp) (by first | omega | assumption | rfl | decide | exact Nat.le_refl _ | (simp only [size_ic, Value.cells]; omega) | (simp; omega) | simp) (by first | exact oneCell_ic | assumption | exact one_Ws2 _ | exact one_YA2 _ | exact one_YSl2 _ | exact one_YM2 _ | exact one_YT2 _ | exact one_L2 _) ?_ | refine WO_store Hvac.sizeOf61 rfl (v := .agg _) rfl (Hb.h (by repeat (first | assumption | exact Hb.newY _ _ | refine Hb.alloc ?_ | refine Hb.drew ?_ | refine Hb.ext (by assumption) ?_ | exact Hb.setSameL (by first | omega | (simp only [size_alloc, size_setB, size_drew]; omega)) | exact Hb.setSame (by assumption) | refine Hb.set (by first | omega | (simp only [size_alloc, size_setB, size_drew]; omega)) ?_ ))) (by first | omega | assumption | rfl | decide | exact Nat.le_refl _ | (simp only [size_ic, Value.cells]; omega) | (simp; omega) | simp) (by first | omega | assumption | rfl | decide | exact Nat.le_refl _ | (simp only [size_ic, Value.cells]; omega) | (simp; omega) | simp) (by first | exact oneCell_ic | assumption | exact one_Ws2 _ | exact one_YA2 _ | exact one_YSl2 _ | exact one_YM2 _ | exact one_YT2 _ | exact one_L2 _) ?_
    refine WO_nil ?_
    refine thn_normal ?_
    refine W_ret ?_
    refine thn_ret ?_
    refine bodyQ_cell1 Hvac.results347 rfl Hvac.isAgg61 Hvac.sizeOf61 rfl (Hb.h (by repeat (first | assumption | exact Hb.newY _ _ | refine Hb.alloc ?_ | refine Hb.drew ?_ | refine Hb.ext (by assumption) ?_ | exact Hb.setSameL (by first | omega | (simp only [size_alloc, size_setB, size_drew]; omega)) | exact Hb.setSame (by assumption) | refine Hb.set (by first | omega | (simp only [size_alloc, size_setB, size_drew]; omega)) ?_ ))) (by first | omega | assumption | rfl | decide | exact Nat.le_refl _ | (simp only [size_ic, Value.cells]; omega) | (simp; omega) | simp) ?_
    first
    | exact ⟨(by repeat (first | assumption | exact Ext.refl _ | refine Ext.alloc ?_ _ | refine Ext.drew ?_ | refine Ext.setB ?_ (by first | omega | (simp only [size_alloc, size_setB, size_drew]; omega)) _ | refine Ext.trans ?_ (by assumption))), _, rfl, hF4, Or.inl ⟨hx256, rfl⟩⟩
    | exact ⟨(by repeat (first | assumption | exact Ext.refl _ | refine Ext.alloc ?_ _ | refine Ext.drew ?_ | refine Ext.setB ?_ (by first | omega | (simp only [size_alloc, size_setB, size_drew]; omega)) _ | refine Ext.trans ?_ (by assumption))), _, rfl, hR, Or.inr ⟨x, _, hx256, ⟨Int.emod_nonneg _ (Int.ne_of_gt (pow2_pos _)), Int.emod_lt_of_pos _ (pow2_pos _)⟩, by rw [show i.toNat = 4 by omega, if_neg (show ¬ i < 4 by omega)] at hlv; exact hlv, fun j h1 h2 => hfl j (by omega) h2⟩⟩
  · have hb4p := hb4.h; try simp only [al_ete, al_dfn, Bool.not_eq_true', Bool.not_eq_false', al_ne, Bool.not_not, al_nn] at hb4p
    have hx256 := hq hb4p
    refine W_skip ?_
    refine thn_normal ?_
    refine W_seq ?_
    refine W_seq ?_
    refine W_region rfl ?_
    refine WO_p (PS_move_int rfl) ?_
    refine WO_p (PS_quo_u64 rfl rfl (by omega) (by omega) (by omega)) ?_
    refine WO_p (PS_assign_int rfl) ?_
    refine WO_nil ?_
    refine thn_normal ?_
    refine W_block ?_
    refine W_loopN (fun m ρ w' => ∃ (i : Int) (R : List Int), Wd R ∧ x / 64 ≤ i ∧ i + m = 4 ∧ (2 ^ (x % 64).toNat * lvr R 0 (i.toNat - (x / 64).toNat) + X.getD (x / 64).toNat 0 % 2 ^ (x % 64).toNat = lvr X (x / 64).toNat (i.toNat - (x / 64).toNat) + (if i < 4 then X.getD i.toNat 0 else f) % 2 ^ (x % 64).toNat * 18446744073709551616 ^ (i.toNat - (x / 64).toNat) ∧ ∀ j, i.toNat - (x / 64).toNat ≤ j → j < 4 → R.getD j 0 = f) ∧ Fr [(2, .int .u64 f), (4, .pointer (some ⟨(w.alloc (.cells (Value.agg (ic .u64 W)).cells 61)).heap.size, 0, none⟩)), (6, .pointer (some ⟨((w.alloc (.cells (Value.agg (ic .u64 W)).cells 61)).alloc (.cells (Value.agg (ic .u64 X)).cells 61)).heap.size, 0, none⟩)), (7, .pointer (some ⟨(((w.alloc (.cells (Value.agg (ic .u64 W)).cells 61)).alloc (.cells (Value.agg (ic .u64 X)).cells 61)).alloc (.cells (Value.agg #[.int .u64 0, .int .u64 0, .int .u64 0, .int .u64 0]).cells 61)).heap.size, 0, none⟩)), (8, .int .u64 x), (10, .int .u64 i)] ρ ∧ Ext w w' ∧ Hb w' ((w.alloc (.cells (Value.agg (ic .u64 W)).cells 61)).heap.size) (.cells (ic .u64 X) 61 (0, 0)) ∧ Hb w' (((w.alloc (.cells (Value.agg (ic .u64 W)).cells 61)).alloc (.cells (Value.agg (ic .u64 X)).cells 61)).heap.size) (.cells (ic .u64 [0, 0, 0, 0]) 61 (0, 0)) ∧ Hb w' ((((w.alloc (.cells (Value.agg (ic .u64 W)).cells 61)).alloc (.cells (Value.agg (ic .u64 X)).cells 61)).alloc (.cells (Value.agg #[.int .u64 0, .int .u64 0, .int .u64 0, .int .u64 0]).cells 61)).heap.size) (.cells (ic .u64 R) 61 (0, 0))) (4 - x / 64).toNat ?_ ?_
    · exact ⟨x / 64, [f, f, f, f], hF4, by omega, by omega, ⟨by rw [Nat.sub_self, if_pos (by omega)]; simp [lvr], fun j _ hj => fill4 f hj⟩, ⟨rfl, rfl, rfl, rfl, rfl, rfl, trivial⟩, Ext.trans (Ext.setB (Ext.alloc (Ext.alloc (Ext.alloc (Ext.alloc (Ext.refl w) _) _) _) _) (by simp only [size_alloc]; omega) _) hE1, Hb.ext hE1 (Hb.set (by simp only [size_alloc]; omega) (Hb.alloc (Hb.alloc (Hb.newY _ _)))), Hb.ext hE1 (Hb.set (by simp only [size_alloc]; omega) (Hb.alloc (Hb.newY _ _))), Hb.ext hE1 (Hb.setSame (Hb.newY _ _))⟩
    intro m ρ w2 hI
    obtain ⟨i, R, hR, hi0, him, ⟨hlv, hfl⟩, hF, hE2, hX2, hR0, hV2⟩ := hI
    clear hE1
    have hRl := hR.1
    have hz2 := hV2.lt
    simp only [size_alloc] at hz2
    refine W_env _ hF ?_
    refine W_seq ?_
    refine W_seq ?_
    refine W_region rfl ?_
    refine WO_p (PS_move_int rfl) ?_
    refine WO_p (PS_lss rfl rfl) ?_
    refine WO_nil ?_
    refine thn_normal ?_
    refine W_if rfl (fun hb6 => ?_) (fun hb6 => ?_)
    · have hb6p := hb6.h; try simp only [al_ete, al_dfn, Bool.not_eq_true', Bool.not_eq_false', al_ne, Bool.not_not, al_nn] at hb6p
      have hce : Ce (ic .u64 X) (0 + i.toNat * 1) (.int .u64 (X.getD i.toNat 0)) := ce_ic (by omega)
      have hxb := wd_get hX i.toNat
      refine W_skip ?_
      refine thn_normal ?_
      refine W_seq ?_
      refine W_block ?_
      refine W_seq ?_
      refine W_region rfl ?_
      refine WO_p (PS_move_int rfl) ?_
      refine WO_p (PS_assign_int rfl) ?_
      refine WO_nil ?_
      refine thn_normal ?_
      refine W_seq ?_
      refine W_seq ?_
      refine W_region rfl ?_
      refine WO_p (PS_move_int rfl) ?_
      refine WO_p (PS_lss rfl rfl) ?_
      refine WO_nil ?_
      refine thn_normal ?_
      refine W_if rfl (fun hb8 => ?_) (fun hb8 => ?_)
      · have hb8p := hb8.h; try simp only [al_ete, al_dfn, Bool.not_eq_true', Bool.not_eq_false', al_ne, Bool.not_not, al_nn] at hb8p
        have hce2 : Ce (ic .u64 X) (0 + (i + 1).toNat * 1) (.int .u64 (X.getD (i + 1).toNat 0)) := ce_ic (by omega)
        have hxb2 := wd_get hX (i + 1).toNat
        have hi3 := hb8p
        have hnx : (if i + 1 < 4 then X.getD (i + 1).toNat 0 else f) = X.getD (i + 1).toNat 0 := if_pos (by omega)
        refine W_region rfl ?_
        refine WO_p (PS_move_int rfl) ?_
        refine WO_p (PS_add_u64n rfl rfl (by omega) (by omega)) ?_
        refine WO_p (PS_indexA Hvac.runUnderlying61 Hvac.sizeOf26 rfl rfl (by omega) (by omega)) ?_
        refine WO_load (.int _ _) Hvac.isAgg26 rfl (Hb.h (by repeat (first | assumption | exact Hb.newY _ _ | refine Hb.alloc ?_ | refine Hb.drew ?_ | refine Hb.ext (by assumption) ?_ | exact Hb.setSameL (by first | omega | (simp only [size_alloc, size_setB, size_drew]; omega)) | exact Hb.setSame (by assumption) | refine Hb.set (by first | omega | (simp only [size_alloc, size_setB, size_drew]; omega)) ?_ ))) (Ce.h (by first | assumption | exact ⟨rfl⟩)) ?_
        refine WO_p (PS_assign_int rfl) ?_
        refine WO_nil ?_
        refine thn_normal ?_
        refine W_region rfl ?_
        refine WO_p (PS_move_int rfl) ?_
        refine WO_p (PS_move_int rfl) ?_
        refine WO_p (PS_quo_u64 rfl rfl (by omega) (by omega) (by omega)) ?_
        refine WO_p (PS_sub_u64n rfl rfl (by omega) (by omega)) ?_
        refine WO_p (PS_move_int rfl) ?_
        refine WO_p (PS_indexA Hvac.runUnderlying61 Hvac.sizeOf26 rfl rfl (by omega) (by omega)) ?_
        refine WO_load (.int _ _) Hvac.isAgg26 rfl (Hb.h (by repeat (first | assumption | exact Hb.newY _ _ | refine Hb.alloc ?_ | refine Hb.drew ?_ | refine Hb.ext (by assumption) ?_ | exact Hb.setSameL (by first | omega | (simp only [size_alloc, size_setB, size_drew]; omega)) | exact Hb.setSame (by assumption) | refine Hb.set (by first | omega | (simp only [size_alloc, size_setB, size_drew]; omega)) ?_ ))) (Ce.h (by first | assumption | exact ⟨rfl⟩)) ?_
        refine WO_p (PS_move_int rfl) ?_
        refine WO_p (PS_rem_u64 rfl rfl (by omega) (by omega)) ?_
        refine WO_p (PS_shr_u64 _ rfl rfl (by omega) rfl) ?_
        refine WO_p (PS_move_int rfl) ?_
        refine WO_p (PS_move_int rfl) ?_
        refine WO_p (PS_rem_u64 rfl rfl (by omega) (by omega)) ?_
        refine WO_p (PS_sub_u64n rfl rfl (by omega) (by omega)) ?_
        refine WO_p (PS_shl_u64 _ rfl rfl (by omega) rfl) ?_
        refine WO_p (PS_or_u64 rfl rfl) ?_
        refine WO_p (PS_indexA Hvac.runUnderlying61 Hvac.sizeOf26 rfl rfl (by omega) (by omega)) ?_
        refine WO_store1 Hvac.sizeOf26 rfl (v := .int _ _) rfl hV2.h rfl (by rw [size_ic]; omega) rfl ?_
        rw [ic_set]
        refine WO_nil ?_
        refine inBlk_normal ?_
        refine thn_normal ?_
        refine W_region rfl ?_
        refine WO_p (PS_move_int rfl) ?_
        refine WO_p (PS_add_u64n rfl rfl (by omega) (by omega)) ?_
        refine WO_p (PS_assign_int rfl) ?_
        refine WO_nil ?_
        refine thn_normal ?_
        have hi8 : (i + 1).toNat = i.toNat + 1 := by omega
        have hik : (i - x / 64).toNat = i.toNat - (x / 64).toNat := by omega
        have hmn : min (x % 64).toNat 64 = (x % 64).toNat := by omega
        have hmn2 : min (64 - x % 64).toNat 64 = 64 - (x % 64).toNat := by omega
        rw [if_pos (show i < 4 by omega)] at hlv
        rw [hi8] at hnx
        exact ⟨m - 1, by omega, i + 1, _, wd_set hR (i - x / 64).toNat (bOr_bd _ _), by omega, by omega, ⟨by rw [hi8, hik]; refine dn_step (by omega) (by omega) (by omega) hlv ?_; rw [hmn, hmn2, or_dn (by omega) hxb]; rw [hnx], fun j h1 h2 => by rw [getD_setI, if_neg (by omega)]; exact hfl j (by omega) h2⟩, ⟨rfl, rfl, rfl, rfl, rfl, rfl, trivial⟩, Ext.setB hE2 (by simp only [size_alloc]; omega) _, Hb.set (by simp only [size_alloc]; omega) hX2, Hb.set (by simp only [size_alloc]; omega) hR0, Hb.setSame hV2⟩
      · have hb8p := hb8.h; try simp only [al_ete, al_dfn, Bool.not_eq_true', Bool.not_eq_false', al_ne, Bool.not_not, al_nn] at hb8p
        have hi3 := hb8p
        have hnx : (if i + 1 < 4 then X.getD (i + 1).toNat 0 else f) = f := if_neg (by omega)
        refine W_skip ?_
        refine thn_normal ?_
        refine W_region rfl ?_
        refine WO_p (PS_move_int rfl) ?_
        refine WO_p (PS_move_int rfl) ?_
        refine WO_p (PS_quo_u64 rfl rfl (by omega) (by omega) (by omega)) ?_
        refine WO_p (PS_sub_u64n rfl rfl (by omega) (by omega)) ?_
        refine WO_p (PS_move_int rfl) ?_
        refine WO_p (PS_indexA Hvac.runUnderlying61 Hvac.sizeOf26 rfl rfl (by omega) (by omega)) ?_
        refine WO_load (.int _ _) Hvac.isAgg26 rfl (Hb.h (by repeat (first | assumption | exact Hb.newY _ _ | refine Hb.alloc ?_ | refine Hb.drew ?_ | refine Hb.ext (by assumption) ?_ | exact Hb.setSameL (by first | omega | (simp only [size_alloc, size_setB, size_drew]; omega)) | exact Hb.setSame (by assumption) | refine Hb.set (by first | omega | (simp only [size_alloc, size_setB, size_drew]; omega)) ?_ ))) (Ce.h (by first | assumption | exact ⟨rfl⟩)) ?_
        refine WO_p (PS_move_int rfl) ?_
        refine WO_p (PS_rem_u64 rfl rfl (by omega) (by omega)) ?_
        refine WO_p (PS_shr_u64 _ rfl rfl (by omega) rfl) ?_
        refine WO_p (PS_move_int rfl) ?_
        refine WO_p (PS_move_int rfl) ?_
        refine WO_p (PS_rem_u64 rfl rfl (by omega) (by omega)) ?_
        refine WO_p (PS_sub_u64n rfl rfl (by omega) (by omega)) ?_
        refine WO_p (PS_shl_u64 _ rfl rfl (by omega) rfl) ?_
        refine WO_p (PS_or_u64 rfl rfl) ?_
        refine WO_p (PS_indexA Hvac.runUnderlying61 Hvac.sizeOf26 rfl rfl (by omega) (by omega)) ?_
        refine WO_store1 Hvac.sizeOf26 rfl (v := .int _ _) rfl hV2.h rfl (by rw [size_ic]; omega) rfl ?_
        rw [ic_set]
        refine WO_nil ?_
        refine inBlk_normal ?_
        refine thn_normal ?_
        refine W_region rfl ?_
        refine WO_p (PS_move_int rfl) ?_
        refine WO_p (PS_add_u64n rfl rfl (by omega) (by omega)) ?_
        refine WO_p (PS_assign_int rfl) ?_
        refine WO_nil ?_
        refine thn_normal ?_
        have hi8 : (i + 1).toNat = i.toNat + 1 := by omega
        have hik : (i - x / 64).toNat = i.toNat - (x / 64).toNat := by omega
        have hmn : min (x % 64).toNat 64 = (x % 64).toNat := by omega
        have hmn2 : min (64 - x % 64).toNat 64 = 64 - (x % 64).toNat := by omega
        rw [if_pos (show i < 4 by omega)] at hlv
        rw [hi8] at hnx
        exact ⟨m - 1, by omega, i + 1, _, wd_set hR (i - x / 64).toNat (bOr_bd _ _), by omega, by omega, ⟨by rw [hi8, hik]; refine dn_step (by omega) (by omega) (by omega) hlv ?_; rw [hmn, hmn2, or_dn (by omega) hxb]; rw [hnx], fun j h1 h2 => by rw [getD_setI, if_neg (by omega)]; exact hfl j (by omega) h2⟩, ⟨rfl, rfl, rfl, rfl, rfl, rfl, trivial⟩, Ext.setB hE2 (by simp only [size_alloc]; omega) _, Hb.set (by simp only [size_alloc]; omega) hX2, Hb.set (by simp only [size_alloc]; omega) hR0, Hb.setSame hV2⟩
    · have hb6p := hb6.h; try simp only [al_ete, al_dfn, Bool.not_eq_true', Bool.not_eq_false', al_ne, Bool.not_not, al_nn] at hb6p
      refine W_exit ?_
      refine thn_exit ?_
      refine thn_exit ?_
      refine inBlk_exit ?_
      refine thn_normal ?_
      refine W_seq ?_
      refine W_region rfl ?_
      refine WO_loadA _ Hvac.isAgg61 Hvac.sizeOf61 rfl (Hb.h (by repeat (first | assumption | exact Hb.newY _ _ | refine Hb.alloc ?_ | refine Hb.drew ?_ | refine Hb.ext (by assumption) ?_ | exact Hb.setSameL (by first | omega | (simp only [size_alloc, size_setB, size_drew]; omega)) | exact Hb.setSame (by assumption) | refine Hb.set (by first | omega | (simp only [size_alloc, size_setB, size_drew]; omega)) ?_ ))) (by first | omega | assumption | rfl | decide | exact Nat.le_refl _ | (simp only [size_ic, Value.cells]; omega) | (simp; omega) | simp) (Xt.h (by first | assumption | exact Xt.whole rfl rfl | exact Xt.whole rfl (by assumption) | exact Xt.whole rfl (by simp only [size_ic, Value.cells]; omega) | exact ⟨rfl⟩)) ?_
      first | refine WO_storeW Hvac.sizeOf61 rfl (v := .agg _) rfl (Hb.h (by repeat (first | assumption | exact Hb.newY _ _ | refine Hb.alloc ?_ | refine Hb.drew ?_ | refine Hb.ext (by assumption) ?_ | exact Hb.setSameL (by first | omega | (simp only [size_alloc, size_setB, size_drew]; omega)) | exact Hb.setSame (by assumption) | refine Hb.set (by first | omega | (simp only [size_alloc, size_setB, size_drew]; omega)) ?_ ))) rfl (by first | omega | assumption | rfl | decide | exact Nat.le_refl _ | (simp only [size_ic, Value.cells]; omega) | (simp; omega) | simp) (by first | omega | assumption | rfl | decide | exact Nat.le_refl _ | (simp only [size_ic, Value.cells]; omega) | (simp; omega) | simp) (by first | exact oneCell_ic | assumption | exact one_Ws2 _ | exact one_YA2 _ | exact one_YSl2 _ | exact one_YM2 _ | exact one_YT2 _ | exact one_L2 _) ?_ | refine WO_store Hvac.sizeOf61 rfl (v := .agg _) rfl (Hb.h (by repeat (first | assumption | exact Hb.newY _ _ | refine Hb.alloc ?_ | refine Hb.drew ?_ | refine Hb.ext (by assumption) ?_ | exact Hb.setSameL (by first | omega | (simp only [size_alloc, size_setB, size_drew]; omega)) | exact Hb.setSame (by assumption) | refine Hb.set (by first | omega | (simp only [size_alloc, size_setB, size_drew]; omega)) ?_ ))) (by first | omega | assumption | rfl | decide | exact Nat.le_refl _ | (simp only [size_ic, Value.cells]; omega) | (simp; omega) | simp) (by first | omega | assumption | rfl | decide | exact Nat.le_refl _ | (simp only [size_ic, Value.cells]; omega) | (simp; omega) | simp) (by first | exact oneCell_ic | assumption | exact one_Ws2 _ | exact one_YA2 _ | exact one_YSl2 _ | exact one_YM2 _ | exact one_YT2 _ | exact one_L2 _) ?_
      refine WO_nil ?_
      refine thn_normal ?_
      refine W_ret ?_
      refine bodyQ_cell1 Hvac.results347 rfl Hvac.isAgg61 Hvac.sizeOf61 rfl (Hb.h (by repeat (first | assumption | exact Hb.newY _ _ | refine Hb.alloc ?_ | refine Hb.drew ?_ | refine Hb.ext (by assumption) ?_ | exact Hb.setSameL (by first | omega | (simp only [size_alloc, size_setB, size_drew]; omega)) | exact Hb.setSame (by assumption) | refine Hb.set (by first | omega | (simp only [size_alloc, size_setB, size_drew]; omega)) ?_ ))) (by first | omega | assumption | rfl | decide | exact Nat.le_refl _ | (simp only [size_ic, Value.cells]; omega) | (simp; omega) | simp) ?_
      first
      | exact ⟨(by repeat (first | assumption | exact Ext.refl _ | refine Ext.alloc ?_ _ | refine Ext.drew ?_ | refine Ext.setB ?_ (by first | omega | (simp only [size_alloc, size_setB, size_drew]; omega)) _ | refine Ext.trans ?_ (by assumption))), _, rfl, hF4, Or.inl ⟨hx256, rfl⟩⟩
      | exact ⟨(by repeat (first | assumption | exact Ext.refl _ | refine Ext.alloc ?_ _ | refine Ext.drew ?_ | refine Ext.setB ?_ (by first | omega | (simp only [size_alloc, size_setB, size_drew]; omega)) _ | refine Ext.trans ?_ (by assumption))), _, rfl, hR, Or.inr ⟨x, _, hx256, ⟨Int.emod_nonneg _ (Int.ne_of_gt (pow2_pos _)), Int.emod_lt_of_pos _ (pow2_pos _)⟩, by rw [show i.toNat = 4 by omega, if_neg (show ¬ i < 4 by omega)] at hlv; exact hlv, fun j h1 h2 => hfl j (by omega) h2⟩⟩

set_option maxRecDepth 10000 in
theorem shr_ex (W X : List Int) (w : World) (hW : Wd W) (hX : Wd X) : Ret Hvac.prog 264 #[.agg (ic .u64 W), .agg (ic .u64 X)] w fun u w' => Ext w w' ∧ ∃ R, u = .agg (ic .u64 R) ∧ Wd R ∧ wn R = yshift 28 (wn W) (wn X) := by
  have hWl := hW.1
  have hXl := hX.1
  refine Ret_of_W Hvac.func264 rfl rfl ?_
  refine W_seq ?_
  refine W_region rfl ?_
  refine WO_box (.agg _) rfl ?_
  refine WO_box (.agg _) rfl ?_
  refine WO_alloc Hvac.zeroValue61 ?_
  refine WO_nil ?_
  refine thn_normal ?_
  refine W_seq ?_
  refine W_region rfl ?_
  refine WO_loadA _ Hvac.isAgg61 Hvac.sizeOf61 rfl (Hb.h (by repeat (first | assumption | exact Hb.newY _ _ | refine Hb.alloc ?_ | refine Hb.drew ?_ | refine Hb.ext (by assumption) ?_ | exact Hb.setSameL (by first | omega | (simp only [size_alloc, size_setB, size_drew]; omega)) | exact Hb.setSame (by assumption) | refine Hb.set (by first | omega | (simp only [size_alloc, size_setB, size_drew]; omega)) ?_ ))) (by first | omega | assumption | rfl | decide | exact Nat.le_refl _ | (simp only [size_ic, Value.cells]; omega) | (simp; omega) | simp) (Xt.h (by first | assumption | exact Xt.whole rfl rfl | exact Xt.whole rfl (by assumption) | exact Xt.whole rfl (by simp only [size_ic, Value.cells]; omega) | exact ⟨rfl⟩)) ?_
  refine WO_loadA _ Hvac.isAgg61 Hvac.sizeOf61 rfl (Hb.h (by repeat (first | assumption | exact Hb.newY _ _ | refine Hb.alloc ?_ | refine Hb.drew ?_ | refine Hb.ext (by assumption) ?_ | exact Hb.setSameL (by first | omega | (simp only [size_alloc, size_setB, size_drew]; omega)) | exact Hb.setSame (by assumption) | refine Hb.set (by first | omega | (simp only [size_alloc, size_setB, size_drew]; omega)) ?_ ))) (by first | omega | assumption | rfl | decide | exact Nat.le_refl _ | (simp only [size_ic, Value.cells]; omega) | (simp; omega) | simp) (Xt.h (by first | assumption | exact Xt.whole rfl rfl | exact Xt.whole rfl (by assumption) | exact Xt.whole rfl (by simp only [size_ic, Value.cells]; omega) | exact ⟨rfl⟩)) ?_
  refine WO_call Hvac.call347 (by rfl) (Ret.mono (down_ex _ _ _ _ (by assumption) (by assumption) (by omega)) ?_)
  rintro _ w347_0 ⟨hE347_0, R347_0, rfl, hR347_0, hRn347_0⟩
  have hz347_0 := hE347_0.1
  try simp only [size_alloc, size_setB, size_drew] at hz347_0
  have hl347_0 := hR347_0.1
  first | refine WO_storeW Hvac.sizeOf61 rfl (v := .agg _) rfl (Hb.h (by repeat (first | assumption | exact Hb.newY _ _ | refine Hb.alloc ?_ | refine Hb.drew ?_ | refine Hb.ext (by assumption) ?_ | exact Hb.setSameL (by first | omega | (simp only [size_alloc, size_setB, size_drew]; omega)) | exact Hb.setSame (by assumption) | refine Hb.set (by first | omega | (simp only [size_alloc, size_setB, size_drew]; omega)) ?_ ))) rfl (by first | omega | assumption | rfl | decide | exact Nat.le_refl _ | (simp only [size_ic, Value.cells]; omega) | (simp; omega) | simp) (by first | omega | assumption | rfl | decide | exact Nat.le_refl _ | (simp only [size_ic, Value.cells]; omega) | (simp; omega) | simp) (by first | exact oneCell_ic | assumption | exact one_Ws2 _ | exact one_YA2 _ | exact one_YSl2 _ | exact one_YM2 _ | exact one_YT2 _ | exact one_L2 _) ?_ | refine WO_store Hvac.sizeOf61 rfl (v := .agg _) rfl (Hb.h (by repeat (first | assumption | exact Hb.newY _ _ | refine Hb.alloc ?_ | refine Hb.drew ?_ | refine Hb.ext (by assumption) ?_ | exact Hb.setSameL (by first | omega | (simp only [size_alloc, size_setB, size_drew]; omega)) | exact Hb.setSame (by assumption) | refine Hb.set (by first | omega | (simp only [size_alloc, size_setB, size_drew]; omega)) ?_ ))) (by first | omega | assumption | rfl | decide | exact Nat.le_refl _ | (simp only [size_ic, Value.cells]; omega) | (simp; omega) | simp) (by first | omega | assumption | rfl | decide | exact Nat.le_refl _ | (simp only [size_ic, Value.cells]; omega) | (simp; omega) | simp) (by first | exact oneCell_ic | assumption | exact one_Ws2 _ | exact one_YA2 _ | exact one_YSl2 _ | exact one_YM2 _ | exact one_YT2 _ | exact one_L2 _) ?_
  refine WO_nil ?_
  refine thn_normal ?_
  refine W_ret ?_
  refine bodyQ_cell1 Hvac.results264 rfl Hvac.isAgg61 Hvac.sizeOf61 rfl (Hb.h (by repeat (first | assumption | exact Hb.newY _ _ | refine Hb.alloc ?_ | refine Hb.drew ?_ | refine Hb.ext (by assumption) ?_ | exact Hb.setSameL (by first | omega | (simp only [size_alloc, size_setB, size_drew]; omega)) | exact Hb.setSame (by assumption) | refine Hb.set (by first | omega | (simp only [size_alloc, size_setB, size_drew]; omega)) ?_ ))) (by first | omega | assumption | rfl | decide | exact Nat.le_refl _ | (simp only [size_ic, Value.cells]; omega) | (simp; omega) | simp) ?_
  exact ⟨(by repeat (first | assumption | exact Ext.refl _ | refine Ext.alloc ?_ _ | refine Ext.drew ?_ | refine Ext.setB ?_ (by first | omega | (simp only [size_alloc, size_setB, size_drew]; omega)) _ | refine Ext.trans ?_ (by assumption))), _, rfl, by assumption, by unfold yshift; rw [if_neg (by decide), if_neg (by simp)]; exact DnP.zero hX (by assumption) hW (by assumption)⟩

set_option maxRecDepth 10000 in
theorem sar_ex (W X : List Int) (w : World) (hW : Wd W) (hX : Wd X) : Ret Hvac.prog 265 #[.agg (ic .u64 W), .agg (ic .u64 X)] w fun u w' => Ext w w' ∧ ∃ R, u = .agg (ic .u64 R) ∧ Wd R ∧ wn R = yshift 29 (wn W) (wn X) := by
  have hWl := hW.1
  have hXl := hX.1
  have hce : Ce (ic .u64 X) (0 + (3:Int).toNat * 1) (.int .u64 (X.getD 3 0)) := ce_ic (by omega)
  have hxb := wd_get hX 3
  refine Ret_of_W Hvac.func265 rfl rfl ?_
  refine W_seq ?_
  refine W_region rfl ?_
  refine WO_box (.agg _) rfl ?_
  refine WO_box (.agg _) rfl ?_
  refine WO_alloc Hvac.zeroValue61 ?_
  refine WO_nil ?_
  refine thn_normal ?_
  refine W_seq ?_
  refine W_region rfl ?_
  refine WO_loadA _ Hvac.isAgg61 Hvac.sizeOf61 rfl (Hb.h (by repeat (first | assumption | exact Hb.newY _ _ | refine Hb.alloc ?_ | refine Hb.drew ?_ | refine Hb.ext (by assumption) ?_ | exact Hb.setSameL (by first | omega | (simp only [size_alloc, size_setB, size_drew]; omega)) | exact Hb.setSame (by assumption) | refine Hb.set (by first | omega | (simp only [size_alloc, size_setB, size_drew]; omega)) ?_ ))) (by first | omega | assumption | rfl | decide | exact Nat.le_refl _ | (simp only [size_ic, Value.cells]; omega) | (simp; omega) | simp) (Xt.h (by first | assumption | exact Xt.whole rfl rfl | exact Xt.whole rfl (by assumption) | exact Xt.whole rfl (by simp only [size_ic, Value.cells]; omega) | exact ⟨rfl⟩)) ?_
  refine WO_loadA _ Hvac.isAgg61 Hvac.sizeOf61 rfl (Hb.h (by repeat (first | assumption | exact Hb.newY _ _ | refine Hb.alloc ?_ | refine Hb.drew ?_ | refine Hb.ext (by assumption) ?_ | exact Hb.setSameL (by first | omega | (simp only [size_alloc, size_setB, size_drew]; omega)) | exact Hb.setSame (by assumption) | refine Hb.set (by first | omega | (simp only [size_alloc, size_setB, size_drew]; omega)) ?_ ))) (by first | omega | assumption | rfl | decide | exact Nat.le_refl _ | (simp only [size_ic, Value.cells]; omega) | (simp; omega) | simp) (Xt.h (by first | assumption | exact Xt.whole rfl rfl | exact Xt.whole rfl (by assumption) | exact Xt.whole rfl (by simp only [size_ic, Value.cells]; omega) | exact ⟨rfl⟩)) ?_
  refine WO_p (PS_indexA Hvac.runUnderlying61 Hvac.sizeOf26 rfl rfl (by omega) (by omega)) ?_
  refine WO_load (.int _ _) Hvac.isAgg26 rfl (Hb.h (by repeat (first | assumption | exact Hb.newY _ _ | refine Hb.alloc ?_ | refine Hb.drew ?_ | refine Hb.ext (by assumption) ?_ | exact Hb.setSameL (by first | omega | (simp only [size_alloc, size_setB, size_drew]; omega)) | exact Hb.setSame (by assumption) | refine Hb.set (by first | omega | (simp only [size_alloc, size_setB, size_drew]; omega)) ?_ ))) (Ce.h (by first | assumption | exact ⟨rfl⟩)) ?_
  refine WO_p (PS_conv_i64w Hvac.runUnderlying26 Hvac.runUnderlying2 rfl) ?_
  refine WO_p (PS_shr_i64 63 rfl rfl (by decide) rfl) ?_
  refine WO_p (PS_conv_u64w Hvac.runUnderlying2 Hvac.runUnderlying26 rfl) ?_
  refine WO_call Hvac.call347 (by rfl) (Ret.mono (down_ex W X _ _ hW hX (by omega)) ?_)
  rintro _ w347_0 ⟨hE347_0, R347_0, rfl, hR347_0, hRn347_0⟩
  have hz347_0 := hE347_0.1
  try simp only [size_alloc, size_setB, size_drew] at hz347_0
  have hl347_0 := hR347_0.1
  first | refine WO_storeW Hvac.sizeOf61 rfl (v := .agg _) rfl (Hb.h (by repeat (first | assumption | exact Hb.newY _ _ | refine Hb.alloc ?_ | refine Hb.drew ?_ | refine Hb.ext (by assumption) ?_ | exact Hb.setSameL (by first | omega | (simp only [size_alloc, size_setB, size_drew]; omega)) | exact Hb.setSame (by assumption) | refine Hb.set (by first | omega | (simp only [size_alloc, size_setB, size_drew]; omega)) ?_ ))) rfl (by first | omega | assumption | rfl | decide | exact Nat.le_refl _ | (simp only [size_ic, Value.cells]; omega) | (simp; omega) | simp) (by first | omega | assumption | rfl | decide | exact Nat.le_refl _ | (simp only [size_ic, Value.cells]; omega) | (simp; omega) | simp) (by first | exact oneCell_ic | assumption | exact one_Ws2 _ | exact one_YA2 _ | exact one_YSl2 _ | exact one_YM2 _ | exact one_YT2 _ | exact one_L2 _) ?_ | refine WO_store Hvac.sizeOf61 rfl (v := .agg _) rfl (Hb.h (by repeat (first | assumption | exact Hb.newY _ _ | refine Hb.alloc ?_ | refine Hb.drew ?_ | refine Hb.ext (by assumption) ?_ | exact Hb.setSameL (by first | omega | (simp only [size_alloc, size_setB, size_drew]; omega)) | exact Hb.setSame (by assumption) | refine Hb.set (by first | omega | (simp only [size_alloc, size_setB, size_drew]; omega)) ?_ ))) (by first | omega | assumption | rfl | decide | exact Nat.le_refl _ | (simp only [size_ic, Value.cells]; omega) | (simp; omega) | simp) (by first | omega | assumption | rfl | decide | exact Nat.le_refl _ | (simp only [size_ic, Value.cells]; omega) | (simp; omega) | simp) (by first | exact oneCell_ic | assumption | exact one_Ws2 _ | exact one_YA2 _ | exact one_YSl2 _ | exact one_YM2 _ | exact one_YT2 _ | exact one_L2 _) ?_
  refine WO_nil ?_
  refine thn_normal ?_
  refine W_ret ?_
  refine bodyQ_cell1 Hvac.results265 rfl Hvac.isAgg61 Hvac.sizeOf61 rfl (Hb.h (by repeat (first | assumption | exact Hb.newY _ _ | refine Hb.alloc ?_ | refine Hb.drew ?_ | refine Hb.ext (by assumption) ?_ | exact Hb.setSameL (by first | omega | (simp only [size_alloc, size_setB, size_drew]; omega)) | exact Hb.setSame (by assumption) | refine Hb.set (by first | omega | (simp only [size_alloc, size_setB, size_drew]; omega)) ?_ ))) (by first | omega | assumption | rfl | decide | exact Nat.le_refl _ | (simp only [size_ic, Value.cells]; omega) | (simp; omega) | simp) ?_
  exact ⟨(by repeat (first | assumption | exact Ext.refl _ | refine Ext.alloc ?_ _ | refine Ext.drew ?_ | refine Ext.setB ?_ (by first | omega | (simp only [size_alloc, size_setB, size_drew]; omega)) _ | refine Ext.trans ?_ (by assumption))), _, rfl, by assumption, sar_wn hX (by assumption) hW (by assumption)⟩

set_option maxRecDepth 10000 in
theorem signExtend_ex (W X : List Int) (w : World) (hW : Wd W) (hX : Wd X) : Ret Hvac.prog 252 #[.agg (ic .u64 W), .agg (ic .u64 X)] w fun u w' => Ext w w' ∧ ∃ R, u = .agg (ic .u64 R) ∧ Wd R ∧ wn R = ysext (wn W) (wn X) := by
  have hWl := hW.1
  have hXl := hX.1
  have hWi := wn_int hW
  refine Ret_of_W Hvac.func252 rfl rfl ?_
  refine W_seq ?_
  refine W_region rfl ?_
  refine WO_box (.agg _) rfl ?_
  refine WO_box (.agg _) rfl ?_
  refine WO_alloc Hvac.zeroValue61 ?_
  refine WO_nil ?_
  refine thn_normal ?_
  refine W_seq ?_
  refine W_region rfl ?_
  refine WO_loadA _ Hvac.isAgg61 Hvac.sizeOf61 rfl (Hb.h (by repeat (first | assumption | exact Hb.newY _ _ | refine Hb.alloc ?_ | refine Hb.drew ?_ | refine Hb.ext (by assumption) ?_ | exact Hb.setSameL (by first | omega | (simp only [size_alloc, size_setB, size_drew]; omega)) | exact Hb.setSame (by assumption) | refine Hb.set (by first | omega | (simp only [size_alloc, size_setB, size_drew]; omega)) ?_ ))) (by first | omega | assumption | rfl | decide | exact Nat.le_refl _ | (simp only [size_ic, Value.cells]; omega) | (simp; omega) | simp) (Xt.h (by first | assumption | exact Xt.whole rfl rfl | exact Xt.whole rfl (by assumption) | exact Xt.whole rfl (by simp only [size_ic, Value.cells]; omega) | exact ⟨rfl⟩)) ?_
  refine WO_call Hvac.call345 (by rfl) (Ret.mono (below_ex W 31 _ hW (by decide)) ?_)
  rintro _ w1 ⟨hE1, x, q, rfl, hx, hq, hqf⟩
  have hz1 := hE1.1
  simp only [size_alloc] at hz1
  have hX1 : Hb w1 _ (.cells (ic .u64 X) 61 (0, 0)) := Hb.ext hE1 (Hb.alloc (Hb.newY _ _))
  have hR1 := Hb.ext hE1 (Hb.newY _ _)
  refine WO_p (PS_move_tuple rfl) ?_
  refine WO_p (PS_extract_int rfl rfl) ?_
  refine WO_p (PS_extract_bool rfl rfl) ?_
  refine WO_p (PS_assign_int rfl) ?_
  refine WO_p (PS_assign_bool rfl) ?_
  refine WO_nil ?_
  refine thn_normal ?_
  refine W_seq ?_
  refine W_seq ?_
  refine W_region rfl ?_
  refine WO_p (PS_move_bool rfl) ?_
  refine WO_p (PS_not rfl) ?_
  refine WO_nil ?_
  refine thn_normal ?_
  refine W_if rfl (fun hb4 => ?_) (fun hb4 => ?_)
  · have hb4p := hb4.h; try simp only [al_ete, al_dfn, Bool.not_eq_true', Bool.not_eq_false', al_ne, Bool.not_not, al_nn] at hb4p
    have hx31 := hqf hb4p
    refine W_seq ?_
    refine W_region rfl ?_
    refine WO_loadA _ Hvac.isAgg61 Hvac.sizeOf61 rfl (Hb.h (by repeat (first | assumption | exact Hb.newY _ _ | refine Hb.alloc ?_ | refine Hb.drew ?_ | refine Hb.ext (by assumption) ?_ | exact Hb.setSameL (by first | omega | (simp only [size_alloc, size_setB, size_drew]; omega)) | exact Hb.setSame (by assumption) | refine Hb.set (by first | omega | (simp only [size_alloc, size_setB, size_drew]; omega)) ?_ ))) (by first | omega | assumption | rfl | decide | exact Nat.le_refl _ | (simp only [size_ic, Value.cells]; omega) | (simp; omega) | simp) (Xt.h (by first | assumption | exact Xt.whole rfl rfl | exact Xt.whole rfl (by assumption) | exact Xt.whole rfl (by simp only [size_ic, Value.cells]; omega) | exact ⟨rfl⟩)) ?_
    first | refine WO_storeW Hvac.sizeOf61 rfl (v := .agg _) rfl (Hb.h (by repeat (first | assumption | exact Hb.newY _ _ | refine Hb.alloc ?_ | refine Hb.drew ?_ | refine Hb.ext (by assumption) ?_ | exact Hb.setSameL (by first | omega | (simp only [size_alloc, size_setB, size_drew]; omega)) | exact Hb.setSame (by assumption) | refine Hb.set (by first | omega | (simp only [size_alloc, size_setB, size_drew]; omega)) ?_ ))) rfl (by first | omega | assumption | rfl | decide | exact Nat.le_refl _ | (simp only [size_ic, Value.cells]; omega) | (simp; omega) | simp) (by first | omega | assumption | rfl | decide | exact Nat.le_refl _ | (simp only [size_ic, Value.cells]; omega) | (simp; omega) | simp) (by first | exact oneCell_ic | assumption | exact one_Ws2 _ | exact one_YA2 _ | exact one_YSl2 _ | exact one_YM2 _ | exact one_YT2 _ | exact one_L2 _) ?_ | refine WO_store Hvac.sizeOf61 rfl (v := .agg _) rfl (Hb.h (by repeat (first | assumption | exact Hb.newY _ _ | refine Hb.alloc ?_ | refine Hb.drew ?_ | refine Hb.ext (by assumption) ?_ | exact Hb.setSameL (by first | omega | (simp only [size_alloc, size_setB, size_drew]; omega)) | exact Hb.setSame (by assumption) | refine Hb.set (by first | omega | (simp only [size_alloc, size_setB, size_drew]; omega)) ?_ ))) (by first | omega | assumption | rfl | decide | exact Nat.le_refl _ | (simp only [size_ic, Value.cells]; omega) | (simp; omega) | simp) (by first | omega | assumption | rfl | decide | exact Nat.le_refl _ | (simp only [size_ic, Value.cells]; omega) | (simp; omega) | simp) (by first | exact oneCell_ic | assumption | exact one_Ws2 _ | exact one_YA2 _ | exact one_YSl2 _ | exact one_YM2 _ | exact one_YT2 _ | exact one_L2 _) ?_
    refine WO_nil ?_
    refine thn_normal ?_
    refine W_ret ?_
    refine thn_ret ?_
    refine bodyQ_cell1 Hvac.results252 rfl Hvac.isAgg61 Hvac.sizeOf61 rfl (Hb.h (by repeat (first | assumption | exact Hb.newY _ _ | refine Hb.alloc ?_ | refine Hb.drew ?_ | refine Hb.ext (by assumption) ?_ | exact Hb.setSameL (by first | omega | (simp only [size_alloc, size_setB, size_drew]; omega)) | exact Hb.setSame (by assumption) | refine Hb.set (by first | omega | (simp only [size_alloc, size_setB, size_drew]; omega)) ?_ ))) (by first | omega | assumption | rfl | decide | exact Nat.le_refl _ | (simp only [size_ic, Value.cells]; omega) | (simp; omega) | simp) ?_
    first
    | exact ⟨(by repeat (first | assumption | exact Ext.refl _ | refine Ext.alloc ?_ _ | refine Ext.drew ?_ | refine Ext.setB ?_ (by first | omega | (simp only [size_alloc, size_setB, size_drew]; omega)) _ | refine Ext.trans ?_ (by assumption))), _, rfl, hX, by unfold ysext; rw [if_neg (by omega)]⟩
    | exact ⟨(by repeat (first | assumption | exact Ext.refl _ | refine Ext.alloc ?_ _ | refine Ext.drew ?_ | refine Ext.setB ?_ (by first | omega | (simp only [size_alloc, size_setB, size_drew]; omega)) _ | refine Ext.trans ?_ (by assumption))), _, rfl, hR, sext_wn hX hR hW hx31 hY hlow (fun k h1 h2 => by rw [hfil k h1 (by omega)]; exact hfe)⟩
  · have hb4p := hb4.h; try simp only [al_ete, al_dfn, Bool.not_eq_true', Bool.not_eq_false', al_ne, Bool.not_not, al_nn] at hb4p
    have hx31 := hq hb4p
    have hce : Ce (ic .u64 X) (0 + ((8 * x + 7) / 64).toNat * 1) (.int .u64 (X.getD ((8 * x + 7) / 64).toNat 0)) := ce_ic (by omega)
    have hxb := wd_get hX ((8 * x + 7) / 64).toNat
    refine W_skip ?_
    refine thn_normal ?_
    refine W_seq ?_
    refine W_region rfl ?_
    refine WO_p (PS_move_int rfl) ?_
    refine WO_p (PS_mul_u64n rfl rfl (by omega) (by omega)) ?_
    refine WO_p (PS_add_u64n rfl rfl (by omega) (by omega)) ?_
    refine WO_p (PS_quo_u64 rfl rfl (by omega) (by omega) (by omega)) ?_
    refine WO_p (PS_assign_int rfl) ?_
    refine WO_nil ?_
    refine thn_normal ?_
    refine W_seq ?_
    refine W_region rfl ?_
    refine WO_p (PS_move_int rfl) ?_
    refine WO_p (PS_mul_u64n rfl rfl (by omega) (by omega)) ?_
    refine WO_p (PS_add_u64n rfl rfl (by omega) (by omega)) ?_
    refine WO_p (PS_rem_u64 rfl rfl (by omega) (by omega)) ?_
    refine WO_p (PS_sub_u64n rfl rfl (by omega) (by omega)) ?_
    refine WO_p (PS_assign_int rfl) ?_
    refine WO_nil ?_
    refine thn_normal ?_
    refine W_seq ?_
    refine W_region rfl ?_
    refine WO_p (PS_move_int rfl) ?_
    refine WO_p (PS_move_int rfl) ?_
    refine WO_p (PS_indexA Hvac.runUnderlying61 Hvac.sizeOf26 rfl rfl (by omega) (by omega)) ?_
    refine WO_load (.int _ _) Hvac.isAgg26 rfl (Hb.h (by repeat (first | assumption | exact Hb.newY _ _ | refine Hb.alloc ?_ | refine Hb.drew ?_ | refine Hb.ext (by assumption) ?_ | exact Hb.setSameL (by first | omega | (simp only [size_alloc, size_setB, size_drew]; omega)) | exact Hb.setSame (by assumption) | refine Hb.set (by first | omega | (simp only [size_alloc, size_setB, size_drew]; omega)) ?_ ))) (Ce.h (by first | assumption | exact ⟨rfl⟩)) ?_
    refine WO_p (PS_move_int rfl) ?_
    refine WO_p (PS_shl_u64 _ rfl rfl (by omega) rfl) ?_
    refine WO_p (PS_conv_i64w Hvac.runUnderlying26 Hvac.runUnderlying2 rfl) ?_
    refine WO_p (PS_move_int rfl) ?_
    refine WO_p (PS_shr_i64 _ rfl rfl (by omega) rfl) ?_
    refine WO_p (PS_conv_u64w Hvac.runUnderlying2 Hvac.runUnderlying26 rfl) ?_
    refine WO_p (PS_indexA Hvac.runUnderlying61 Hvac.sizeOf26 rfl rfl (by omega) (by omega)) ?_
    refine WO_store1 Hvac.sizeOf26 rfl (v := .int _ _) rfl hX1.h rfl (by rw [size_ic]; omega) rfl ?_
    rw [ic_set]
    generalize hY : X.set _ _ = Y
    have hYd : Wd Y := by rw [← hY]; exact wd_set hX _ (by omega)
    have hYl := hYd.1
    have hYb := wd_get hYd ((8 * x + 7) / 64).toNat
    have hceY : Ce (ic .u64 Y) (0 + ((8 * x + 7) / 64).toNat * 1) (.int .u64 (Y.getD ((8 * x + 7) / 64).toNat 0)) := ce_ic (by omega)
    have hX3 := Hb.setSame (o' := .cells (ic .u64 Y) 61 (0, 0)) hX1
    have hR3 := Hb.set (b := (w.alloc (.cells (Value.agg (ic .u64 W)).cells 61)).heap.size) (o' := .cells (ic .u64 Y) 61 (0, 0)) (by simp only [size_alloc]; omega) hR1
    have hE3 : Ext w (setB w1 ((w.alloc (.cells (Value.agg (ic .u64 W)).cells 61)).heap.size) (.cells (ic .u64 Y) 61 (0, 0))) := Ext.setB (Ext.trans (Ext.alloc (Ext.alloc (Ext.alloc (Ext.refl w) _) _) _) hE1) (by simp only [size_alloc]; omega) _
    clear hX1 hR1 hE1 hce
    refine WO_nil ?_
    refine thn_normal ?_
    refine W_seq ?_
    refine W_region rfl ?_
    refine WO_p (PS_move_int rfl) ?_
    refine WO_p (PS_indexA Hvac.runUnderlying61 Hvac.sizeOf26 rfl rfl (by omega) (by omega)) ?_
    refine WO_load (.int _ _) Hvac.isAgg26 rfl (Hb.h (by repeat (first | assumption | exact Hb.newY _ _ | refine Hb.alloc ?_ | refine Hb.drew ?_ | refine Hb.ext (by assumption) ?_ | exact Hb.setSameL (by first | omega | (simp only [size_alloc, size_setB, size_drew]; omega)) | exact Hb.setSame (by assumption) | refine Hb.set (by first | omega | (simp only [size_alloc, size_setB, size_drew]; omega)) ?_ ))) (Ce.h (by first | assumption | exact ⟨rfl⟩)) ?_
    refine WO_p (PS_conv_i64w Hvac.runUnderlying26 Hvac.runUnderlying2 rfl) ?_
    refine WO_p (PS_shr_i64 63 rfl rfl (by decide) rfl) ?_
    refine WO_p (PS_conv_u64w Hvac.runUnderlying2 Hvac.runUnderlying26 rfl) ?_
    refine WO_p (PS_assign_int rfl) ?_
    refine WO_nil ?_
    refine thn_normal ?_
    refine W_seq ?_
    refine W_seq ?_
    refine W_region rfl ?_
    refine WO_p (PS_move_int rfl) ?_
    refine WO_p (PS_add_u64n rfl rfl (by omega) (by omega)) ?_
    refine WO_p (PS_assign_int rfl) ?_
    refine WO_nil ?_
    refine thn_normal ?_
    refine W_block ?_
    refine W_loopN (fun m ρ w' => ∃ (i f : Int) (R : List Int), Wd R ∧ (8 * x + 7) / 64 < i ∧ i + m = 4 ∧ (0 ≤ f ∧ f ≤ 18446744073709551615) ∧ (f = IntKind.i64.wrap (Y.getD ((8 * x + 7) / 64).toNat 0) / 2 ^ 63 % 18446744073709551616 ∧ (∀ k : Nat, (k : Int) ≤ (8 * x + 7) / 64 → R.getD k 0 = Y.getD k 0) ∧ (∀ k : Nat, (8 * x + 7) / 64 < (k : Int) → (k : Int) < i → R.getD k 0 = f)) ∧ Fr [(3, .pointer (some ⟨(w.alloc (.cells (Value.agg (ic .u64 W)).cells 61)).heap.size, 0, none⟩)), (4, .pointer (some ⟨((w.alloc (.cells (Value.agg (ic .u64 W)).cells 61)).alloc (.cells (Value.agg (ic .u64 X)).cells 61)).heap.size, 0, none⟩)), (9, .int .u64 f), (10, .int .u64 i)] ρ ∧ Ext w w' ∧ Hb w' ((w.alloc (.cells (Value.agg (ic .u64 W)).cells 61)).heap.size) (.cells (ic .u64 R) 61 (0, 0)) ∧ Hb w' (((w.alloc (.cells (Value.agg (ic .u64 W)).cells 61)).alloc (.cells (Value.agg (ic .u64 X)).cells 61)).heap.size) (.cells (ic .u64 [0, 0, 0, 0]) 61 (0, 0))) (4 - ((8 * x + 7) / 64 + 1)).toNat ?_ ?_
    · exact ⟨(8 * x + 7) / 64 + 1, _, Y, hYd, by omega, by omega, by omega, ⟨rfl, fun _ _ => rfl, fun k h1 h2 => by omega⟩, ⟨rfl, rfl, rfl, rfl, trivial⟩, hE3, hX3, hR3⟩
    intro m ρ w2 hI
    obtain ⟨i, f, R, hR, hi0, him, hf, ⟨hfe, hlow, hfil⟩, hF, hE2, hX2, hR0⟩ := hI
    clear hX3 hR3 hE3
    have hRl := hR.1
    have hz2 := hX2.lt
    simp only [size_alloc] at hz2
    refine W_env _ hF ?_
    refine W_seq ?_
    refine W_seq ?_
    refine W_region rfl ?_
    refine WO_p (PS_move_int rfl) ?_
    refine WO_p (PS_lss rfl rfl) ?_
    refine WO_nil ?_
    refine thn_normal ?_
    refine W_if rfl (fun hb6 => ?_) (fun hb6 => ?_)
    · have hb6p := hb6.h; try simp only [al_ete, al_dfn, Bool.not_eq_true', Bool.not_eq_false', al_ne, Bool.not_not, al_nn] at hb6p
      refine W_skip ?_
      refine thn_normal ?_
      refine W_seq ?_
      refine W_block ?_
      refine W_region rfl ?_
      refine WO_p (PS_move_int rfl) ?_
      refine WO_p (PS_move_int rfl) ?_
      refine WO_p (PS_indexA Hvac.runUnderlying61 Hvac.sizeOf26 rfl rfl (by omega) (by omega)) ?_
      refine WO_store1 Hvac.sizeOf26 rfl (v := .int _ _) rfl hX2.h rfl (by rw [size_ic]; omega) rfl ?_
      rw [ic_set]
      refine WO_nil ?_
      refine inBlk_normal ?_
      refine thn_normal ?_
      refine W_region rfl ?_
      refine WO_p (PS_move_int rfl) ?_
      refine WO_p (PS_add_u64n rfl rfl (by omega) (by omega)) ?_
      refine WO_p (PS_assign_int rfl) ?_
      refine WO_nil ?_
      refine thn_normal ?_
      exact ⟨m - 1, by omega, i + 1, f, _, wd_set hR i.toNat hf, by omega, by omega, hf, ⟨hfe, fun k hk => by rw [getD_setI, if_neg (by omega)]; exact hlow k hk, fun k h1 h2 => by rw [getD_setI]; split; (· rfl); exact hfil k h1 (by omega)⟩, ⟨rfl, rfl, rfl, rfl, trivial⟩, Ext.setB hE2 (by simp only [size_alloc]; omega) _, Hb.setSame hX2, Hb.set (by simp only [size_alloc]; omega) hR0⟩
    · have hb6p := hb6.h; try simp only [al_ete, al_dfn, Bool.not_eq_true', Bool.not_eq_false', al_ne, Bool.not_not, al_nn] at hb6p
      refine W_exit ?_
      refine thn_exit ?_
      refine thn_exit ?_
      refine inBlk_exit ?_
      refine thn_normal ?_
      refine W_seq ?_
      refine W_region rfl ?_
      refine WO_loadA _ Hvac.isAgg61 Hvac.sizeOf61 rfl (Hb.h (by repeat (first | assumption | exact Hb.newY _ _ | refine Hb.alloc ?_ | refine Hb.drew ?_ | refine Hb.ext (by assumption) ?_ | exact Hb.setSameL (by first | omega | (simp only [size_alloc, size_setB, size_drew]; omega)) | exact Hb.setSame (by assumption) | refine Hb.set (by first | omega | (simp only [size_alloc, size_setB, size_drew]; omega)) ?_ ))) (by first | omega | assumption | rfl | decide | exact Nat.le_refl _ | (simp only [size_ic, Value.cells]; omega) | (simp; omega) | simp) (Xt.h (by first | assumption | exact Xt.whole rfl rfl | exact Xt.whole rfl (by assumption) | exact Xt.whole rfl (by simp only [size_ic, Value.cells]; omega) | exact ⟨rfl⟩)) ?_
      first | refine WO_storeW Hvac.sizeOf61 rfl (v := .agg _) rfl (Hb.h (by repeat (first | assumption | exact Hb.newY _ _ | refine Hb.alloc ?_ | refine Hb.drew ?_ | refine Hb.ext (by assumption) ?_ | exact Hb.setSameL (by first | omega | (simp only [size_alloc, size_setB, size_drew]; omega)) | exact Hb.setSame (by assumption) | refine Hb.set (by first | omega | (simp only [size_alloc, size_setB, size_drew]; omega)) ?_ ))) rfl (by first | omega | assumption | rfl | decide | exact Nat.le_refl _ | (simp only [size_ic, Value.cells]; omega) | (simp; omega) | simp) (by first | omega | assumption | rfl | decide | exact Nat.le_refl _ | (simp only [size_ic, Value.cells]; omega) | (simp; omega) | simp) (by first | exact oneCell_ic | assumption | exact one_Ws2 _ | exact one_YA2 _ | exact one_YSl2 _ | exact one_YM2 _ | exact one_YT2 _ | exact one_L2 _) ?_ | refine WO_store Hvac.sizeOf61 rfl (v := .agg _) rfl (Hb.h (by repeat (first | assumption | exact Hb.newY _ _ | refine Hb.alloc ?_ | refine Hb.drew ?_ | refine Hb.ext (by assumption) ?_ | exact Hb.setSameL (by first | omega | (simp only [size_alloc, size_setB, size_drew]; omega)) | exact Hb.setSame (by assumption) | refine Hb.set (by first | omega | (simp only [size_alloc, size_setB, size_drew]; omega)) ?_ ))) (by first | omega | assumption | rfl | decide | exact Nat.le_refl _ | (simp only [size_ic, Value.cells]; omega) | (simp; omega) | simp) (by first | omega | assumption | rfl | decide | exact Nat.le_refl _ | (simp only [size_ic, Value.cells]; omega) | (simp; omega) | simp) (by first | exact oneCell_ic | assumption | exact one_Ws2 _ | exact one_YA2 _ | exact one_YSl2 _ | exact one_YM2 _ | exact one_YT2 _ | exact one_L2 _) ?_
      refine WO_nil ?_
      refine thn_normal ?_
      refine W_ret ?_
      refine bodyQ_cell1 Hvac.results252 rfl Hvac.isAgg61 Hvac.sizeOf61 rfl (Hb.h (by repeat (first | assumption | exact Hb.newY _ _ | refine Hb.alloc ?_ | refine Hb.drew ?_ | refine Hb.ext (by assumption) ?_ | exact Hb.setSameL (by first | omega | (simp only [size_alloc, size_setB, size_drew]; omega)) | exact Hb.setSame (by assumption) | refine Hb.set (by first | omega | (simp only [size_alloc, size_setB, size_drew]; omega)) ?_ ))) (by first | omega | assumption | rfl | decide | exact Nat.le_refl _ | (simp only [size_ic, Value.cells]; omega) | (simp; omega) | simp) ?_
      first
      | exact ⟨(by repeat (first | assumption | exact Ext.refl _ | refine Ext.alloc ?_ _ | refine Ext.drew ?_ | refine Ext.setB ?_ (by first | omega | (simp only [size_alloc, size_setB, size_drew]; omega)) _ | refine Ext.trans ?_ (by assumption))), _, rfl, hX, by unfold ysext; rw [if_neg (by omega)]⟩
      | exact ⟨(by repeat (first | assumption | exact Ext.refl _ | refine Ext.alloc ?_ _ | refine Ext.drew ?_ | refine Ext.setB ?_ (by first | omega | (simp only [size_alloc, size_setB, size_drew]; omega)) _ | refine Ext.trans ?_ (by assumption))), _, rfl, hR, sext_wn hX hR hW hx31 hY hlow (fun k h1 h2 => by rw [hfil k h1 (by omega)]; exact hfe)⟩

end Go.Proofs.YgvacwGreat
