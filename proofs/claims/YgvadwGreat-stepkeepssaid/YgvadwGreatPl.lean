import Derived.Test.YgvadwGreatFwK
set_option linter.unusedSimpArgs false
set_option linter.unusedVariables false
namespace Go.Proofs.YgvadwGreat
/-! plain arithmetic of words -/
theorem ofInt_toNat (n : Nat) (x : Int) (h0 : 0 ≤ x) (h1 : x < 2 ^ n) : (BitVec.ofInt n x).toNat = x.toNat := by
  rw [BitVec.toNat_ofInt]
  have : x % ((2 ^ n : Nat) : Int) = x := by
    refine Int.emod_eq_of_lt h0 ?_
    rw [Int.natCast_pow]; exact h1
  rw [this]
theorem bAnd_nat {a b : Int} (ha : 0 ≤ a) (ha' : a ≤ 18446744073709551615) (hb : 0 ≤ b) (hb' : b ≤ 18446744073709551615) : bAnd a b = ((a.toNat &&& b.toNat : Nat) : Int) := by
  unfold bAnd; rw [BitVec.toNat_and, ofInt_toNat 64 a ha (by omega), ofInt_toNat 64 b hb (by omega)]
theorem bOr_nat {a b : Int} (ha : 0 ≤ a) (ha' : a ≤ 18446744073709551615) (hb : 0 ≤ b) (hb' : b ≤ 18446744073709551615) : bOr a b = ((a.toNat ||| b.toNat : Nat) : Int) := by
  unfold bOr; rw [BitVec.toNat_or, ofInt_toNat 64 a ha (by omega), ofInt_toNat 64 b hb (by omega)]
theorem bAnd_mask32 {x : Int} (h0 : 0 ≤ x) (h1 : x ≤ 18446744073709551615) : bAnd x 4294967295 = x % 4294967296 := by
  rw [bAnd_nat h0 h1 (by decide) (by decide)]
  have : x.toNat &&& (4294967295 : Int).toNat = x.toNat % 2 ^ 32 := Nat.and_two_pow_sub_one_eq_mod x.toNat 32
  rw [this]; omega
theorem bOr_shl {a b : Int} (k : Nat) (ha : 0 ≤ a) (ha' : a < 2 ^ k) (hb : 0 ≤ b) (h : b * 2 ^ k + a ≤ 18446744073709551615) : bOr a (b * 2 ^ k) = a + b * 2 ^ k := by
  have hp : (0 : Int) < 2 ^ k := Int.pow_pos (by decide)
  have hbp : 0 ≤ b * 2 ^ k := Int.mul_nonneg hb (Int.le_of_lt hp)
  rw [bOr_nat ha (by omega) hbp (by omega)]
  obtain ⟨x, rfl⟩ := Int.eq_ofNat_of_zero_le ha
  obtain ⟨y, rfl⟩ := Int.eq_ofNat_of_zero_le hb
  have e1 : ((y : Int) * 2 ^ k).toNat = y <<< k := by
    rw [Nat.shiftLeft_eq]
    have : ((y : Int) * 2 ^ k) = ((y * 2 ^ k : Nat) : Int) := by simp
    rw [this, Int.toNat_natCast]
  have hx : x < 2 ^ k := by
    have : ((x : Nat) : Int) < ((2 ^ k : Nat) : Int) := by simpa using ha'
    exact_mod_cast this
  rw [e1, Int.toNat_natCast, al_noc, ← Nat.shiftLeft_add_eq_or_of_lt hx, Nat.shiftLeft_eq]
  simp; omega
theorem bOr_zero {a b : Int} (ha : 0 ≤ a) (ha' : a ≤ 18446744073709551615) (hb : 0 ≤ b) (hb' : b ≤ 18446744073709551615) : bOr a b = 0 ↔ a = 0 ∧ b = 0 := by
  rw [bOr_nat ha ha' hb hb']
  constructor
  · intro h
    have h' : a.toNat ||| b.toNat = 0 := by exact_mod_cast h
    rw [Nat.or_eq_zero_iff] at h'
    omega
  · rintro ⟨rfl, rfl⟩; rfl
theorem mul_bd {a b A B : Int} (h1 : 0 ≤ a) (h2 : a ≤ A) (h3 : 0 ≤ b) (h4 : b ≤ B) : 0 ≤ a * b ∧ a * b ≤ A * B :=
  ⟨Int.mul_nonneg h1 h3, Int.mul_le_mul h2 h4 h3 (Int.le_trans h1 h2)⟩

/-- the number of eight bytes, the most significant first -/
def be8 (p0 p1 p2 p3 p4 p5 p6 p7 : Int) : Int := p7 + p6 * 2 ^ 8 + p5 * 2 ^ 16 + p4 * 2 ^ 24 + p3 * 2 ^ 32 + p2 * 2 ^ 40 + p1 * 2 ^ 48 + p0 * 2 ^ 56
theorem be8_or {p0 p1 p2 p3 p4 p5 p6 p7 : Int} (h0 : 0 ≤ p0 ∧ p0 ≤ 255) (h1 : 0 ≤ p1 ∧ p1 ≤ 255) (h2 : 0 ≤ p2 ∧ p2 ≤ 255) (h3 : 0 ≤ p3 ∧ p3 ≤ 255) (h4 : 0 ≤ p4 ∧ p4 ≤ 255) (h5 : 0 ≤ p5 ∧ p5 ≤ 255) (h6 : 0 ≤ p6 ∧ p6 ≤ 255) (h7 : 0 ≤ p7 ∧ p7 ≤ 255) :
    bOr (bOr (bOr (bOr (bOr (bOr (bOr p7 ((p6 * 2 ^ 8) % 18446744073709551616)) ((p5 * 2 ^ 16) % 18446744073709551616)) ((p4 * 2 ^ 24) % 18446744073709551616)) ((p3 * 2 ^ 32) % 18446744073709551616)) ((p2 * 2 ^ 40) % 18446744073709551616)) ((p1 * 2 ^ 48) % 18446744073709551616)) ((p0 * 2 ^ 56) % 18446744073709551616)
      = be8 p0 p1 p2 p3 p4 p5 p6 p7 := by
  have e6 : (p6 * 2 ^ 8) % 18446744073709551616 = p6 * 2 ^ 8 := by omega
  have e5 : (p5 * 2 ^ 16) % 18446744073709551616 = p5 * 2 ^ 16 := by omega
  have e4 : (p4 * 2 ^ 24) % 18446744073709551616 = p4 * 2 ^ 24 := by omega
  have e3 : (p3 * 2 ^ 32) % 18446744073709551616 = p3 * 2 ^ 32 := by omega
  have e2 : (p2 * 2 ^ 40) % 18446744073709551616 = p2 * 2 ^ 40 := by omega
  have e1 : (p1 * 2 ^ 48) % 18446744073709551616 = p1 * 2 ^ 48 := by omega
  have e0 : (p0 * 2 ^ 56) % 18446744073709551616 = p0 * 2 ^ 56 := by omega
  rw [e6, e5, e4, e3, e2, e1, e0]
  rw [bOr_shl 8 (by omega) (by omega) (by omega) (by omega), bOr_shl 16 (by omega) (by omega) (by omega) (by omega), bOr_shl 24 (by omega) (by omega) (by omega) (by omega), bOr_shl 32 (by omega) (by omega) (by omega) (by omega), bOr_shl 40 (by omega) (by omega) (by omega) (by omega), bOr_shl 48 (by omega) (by omega) (by omega) (by omega), bOr_shl 56 (by omega) (by omega) (by omega) (by omega)]
  rfl
theorem be8_bd {p0 p1 p2 p3 p4 p5 p6 p7 : Int} (h0 : 0 ≤ p0 ∧ p0 ≤ 255) (h1 : 0 ≤ p1 ∧ p1 ≤ 255) (h2 : 0 ≤ p2 ∧ p2 ≤ 255) (h3 : 0 ≤ p3 ∧ p3 ≤ 255) (h4 : 0 ≤ p4 ∧ p4 ≤ 255) (h5 : 0 ≤ p5 ∧ p5 ≤ 255) (h6 : 0 ≤ p6 ∧ p6 ≤ 255) (h7 : 0 ≤ p7 ∧ p7 ≤ 255) :
    0 ≤ be8 p0 p1 p2 p3 p4 p5 p6 p7 ∧ be8 p0 p1 p2 p3 p4 p5 p6 p7 ≤ 18446744073709551615 := by unfold be8; omega

theorem mul64_hi {x y x0 x1 y0 y1 : Int} (hx : x = x1 * 4294967296 + x0) (hy : y = y1 * 4294967296 + y0) (hx0 : 0 ≤ x0 ∧ x0 ≤ 4294967295) (hy0 : 0 ≤ y0 ∧ y0 ≤ 4294967295) :
    x1 * y1 + (x1 * y0 + x0 * y0 / 4294967296) / 4294967296 + ((x1 * y0 + x0 * y0 / 4294967296) % 4294967296 + x0 * y1) / 4294967296 = x * y / 18446744073709551616 := by
  subst hx hy
  generalize hA : x1 * y1 = A
  generalize hB : x1 * y0 = B
  generalize hC : x0 * y1 = C
  generalize hD : x0 * y0 = D
  have e : (x1 * 4294967296 + x0) * (y1 * 4294967296 + y0) = A * 18446744073709551616 + (B + C) * 4294967296 + D := by
    rw [← hA, ← hB, ← hC, ← hD]; simp only [Int.add_mul, Int.mul_add, Int.mul_assoc, Int.mul_left_comm, Int.mul_comm, Int.reduceMul]; omega
  rw [e]; omega
end Go.Proofs.YgvadwGreat
