import Derived.Test.YgvacwGreatUi
namespace Go.Proofs.YgvacwGreat
set_option linter.unusedSimpArgs false
set_option linter.unusedVariables false
/-! numbers of limbs -/
def lvr (L : List Int) (o : Nat) : Nat → Int
  | 0 => 0
  | n + 1 => lvr L o n + L.getD (o + n) 0 * 18446744073709551616 ^ n
theorem lvr_succ (L : List Int) (o n : Nat) : lvr L o (n + 1) = lvr L o n + L.getD (o + n) 0 * 18446744073709551616 ^ n := rfl
theorem lvr_congr {L L' : List Int} {o o' : Nat} : ∀ n, (∀ k, k < n → L'.getD (o' + k) 0 = L.getD (o + k) 0) → lvr L' o' n = lvr L o n
  | 0, _ => rfl
  | n + 1, h => by rw [lvr_succ, lvr_succ, lvr_congr n (fun k hk => h k (by omega)), h n (by omega)]
theorem getD_setI {L : List Int} {k j : Nat} {y : Int} : (L.set k y).getD j 0 = if k = j ∧ k < L.length then y else L.getD j 0 := by
  rw [List.getD_eq_getElem?_getD, List.getD_eq_getElem?_getD, List.getElem?_set]
  by_cases h : k = j
  · subst h
    by_cases h2 : k < L.length
    · simp [h2]
    · simp [h2, List.getElem?_eq_none (Nat.le_of_not_lt h2)]
  · simp [h]
theorem lvr_set_out {L : List Int} {o n k : Nat} {y : Int} (h : k < o ∨ o + n ≤ k) : lvr (L.set k y) o n = lvr L o n :=
  lvr_congr n (fun j hj => by rw [getD_setI, if_neg (by omega)])
theorem lvr_set_last {L : List Int} {o n : Nat} {y : Int} (h : o + n < L.length) : lvr (L.set (o + n) y) o (n + 1) = lvr L o n + y * 18446744073709551616 ^ n := by
  rw [lvr_succ, lvr_set_out (Or.inr (Nat.le_refl _)), getD_setI, if_pos ⟨rfl, h⟩]
theorem lpow_pos (n : Nat) : (0:Int) < 18446744073709551616 ^ n := Int.pow_pos (by decide)
theorem lvr_bd {L : List Int} (h : UL L) (o : Nat) : ∀ n, 0 ≤ lvr L o n ∧ lvr L o n < 18446744073709551616 ^ n
  | 0 => by simp [lvr]
  | n + 1 => by
    have ih := lvr_bd h o n
    have hg := h.get (o + n)
    have hp := lpow_pos n
    rw [lvr_succ, Int.pow_succ]
    have h1 := Int.mul_nonneg hg.1 (Int.le_of_lt hp)
    have h2 := Int.mul_le_mul_of_nonneg_right hg.2 (Int.le_of_lt hp)
    omega
theorem lvr_split (L : List Int) (o a : Nat) : ∀ b, lvr L o (a + b) = lvr L o a + 18446744073709551616 ^ a * lvr L (o + a) b
  | 0 => by simp [lvr]
  | b + 1 => by
    rw [← Nat.add_assoc, lvr_succ, lvr_split L o a b, lvr_succ, Int.mul_add, Int.pow_add, show o + a + b = o + (a + b) by omega]
    have : L.getD (o + (a + b)) 0 * (18446744073709551616 ^ a * 18446744073709551616 ^ b) = 18446744073709551616 ^ a * (L.getD (o + (a + b)) 0 * 18446744073709551616 ^ b) := by
      rw [← Int.mul_assoc, Int.mul_comm (L.getD _ _), Int.mul_assoc]
    omega
theorem lvr_head (L : List Int) (o n : Nat) : lvr L o (n + 1) = L.getD o 0 + 18446744073709551616 * lvr L (o + 1) n := by
  have := lvr_split L o 1 n
  rw [Nat.add_comm 1 n] at this
  rw [this]
  simp [lvr]
theorem lvr_zero_from {L : List Int} {o a : Nat} : ∀ b, (∀ k, a ≤ k → k < a + b → L.getD (o + k) 0 = 0) → lvr L o (a + b) = lvr L o a
  | 0, _ => rfl
  | b + 1, h => by rw [← Nat.add_assoc, lvr_succ, lvr_zero_from b (fun k h1 h2 => h k h1 (by omega)), h (a + b) (by omega) (by omega)]; simp
/-! Knuth's trial digit -/
theorem knuth_hi {U V T D P q u v : Int} (hP : 0 < P) (hU : U = T * P + u) (hV : V = D * P + v) (hu : 0 ≤ u ∧ u < P) (hv : 0 ≤ v ∧ v < P) (hD : 18446744073709551616 ≤ D) (hq0 : 0 ≤ q) (hq : q ≤ 18446744073709551615) (h1 : q * D ≤ T) : q * V < U + V := by
  have a1 := Int.mul_le_mul_of_nonneg_right h1 (Int.le_of_lt hP)
  have a2 : q * v ≤ 18446744073709551615 * P := Int.le_trans (Int.mul_le_mul_of_nonneg_right hq hv.1) (Int.mul_le_mul_of_nonneg_left (Int.le_of_lt hv.2) (by decide))
  have a3 := Int.mul_le_mul_of_nonneg_right hD (Int.le_of_lt hP)
  have a4 : q * V = q * D * P + q * v := by rw [hV, Int.mul_add, Int.mul_assoc]
  omega
theorem knuth_lo {U V T D P q u v : Int} (hP : 0 < P) (hU : U = T * P + u) (hV : V = D * P + v) (hu : 0 ≤ u ∧ u < P) (hv : 0 ≤ v ∧ v < P) (hq0 : 0 ≤ q) (hB : U < 18446744073709551616 * V) (h2 : q = 18446744073709551615 ∨ T < (q + 1) * D) : U < (q + 1) * V := by
  rcases h2 with h2 | h2
  · subst h2; exact hB
  · have a1 : (T + 1) * P ≤ (q + 1) * D * P := Int.mul_le_mul_of_nonneg_right h2 (Int.le_of_lt hP)
    have a2 : (q + 1) * V = (q + 1) * D * P + (q + 1) * v := by rw [hV, Int.mul_add, Int.mul_assoc]
    have a3 : 0 ≤ (q + 1) * v := Int.mul_nonneg (by omega) hv.1
    have a4 : (T + 1) * P = T * P + P := by rw [Int.add_mul, Int.one_mul]
    omega
theorem quot_eq {U V q : Int} (hV : 0 < V) (h0 : q * V ≤ U) (h1 : U < (q + 1) * V) : U / V = q ∧ U % V = U - q * V := by
  have h2 : (q + 1) * V = q * V + V := by rw [Int.add_mul, Int.one_mul]
  have e : U / V = q := by
    apply Int.le_antisymm
    · exact Int.le_of_lt_add_one (Int.ediv_lt_of_lt_mul hV h1)
    · exact Int.le_ediv_of_mul_le hV h0
  refine ⟨e, ?_⟩
  have := Int.emod_def U V
  rw [e, Int.mul_comm] at this
  exact this
theorem tri_init {h y1 y0 b l : Int} (h9 : 0 ≤ h) (hy : 0 < y1) (hb : 0 < b) (h0 : 0 ≤ y0) (hl : l < b) : h * b + l < (h / y1 + 1) * (y1 * b + y0) := by
  have e := Int.mul_ediv_add_emod h y1
  have m := Int.emod_lt_of_pos h hy
  have hq : 0 ≤ h / y1 := Int.ediv_nonneg h9 (Int.le_of_lt hy)
  have a1 : h + 1 ≤ (h / y1 + 1) * y1 := by rw [Int.add_mul, Int.one_mul, Int.mul_comm (h / y1)]; omega
  have a2 := Int.mul_le_mul_of_nonneg_right a1 (Int.le_of_lt hb)
  have a3 := Int.mul_nonneg (show 0 ≤ h / y1 + 1 by omega) h0
  rw [Int.mul_add, ← Int.mul_assoc]
  rw [Int.add_mul, Int.one_mul] at a2
  omega
theorem tri_mul {q r y1 y0 b h : Int} (e : q * y1 + r = h) : q * (y1 * b + y0) = h * b - b * r + q * y0 := by
  subst e
  rw [Int.mul_add, ← Int.mul_assoc, Int.add_mul, Int.mul_comm b r]
  omega
/-- the trial digit is too great -/
theorem tri_dec {q r y1 y0 b h l : Int} (e : q * y1 + r = h) (h1 : b * r + l < q * y0) : h * b + l < (q - 1 + 1) * (y1 * b + y0) := by
  rw [show q - 1 + 1 = q by omega, tri_mul e]
  omega
theorem tri_decB {q D b T : Int} (hD : 0 ≤ D) (h1 : b ≤ q) (h2 : T < b * D) : T < (q - 1 + 1) * D := by
  rw [show q - 1 + 1 = q by omega]
  exact Int.lt_of_lt_of_le h2 (Int.mul_le_mul_of_nonneg_right h1 hD)
/-- the trial digit will do -/
theorem tri_ok {q r y1 y0 b h l : Int} (e : q * y1 + r = h) (h1 : q * y0 ≤ b * r + l) : q * (y1 * b + y0) ≤ h * b + l := by
  rw [tri_mul e]
  omega
theorem tri_big {q r y1 y0 b h l : Int} (e : q * y1 + r = h) (hr : b ≤ r) (hl : 0 ≤ l) (hq : q ≤ b) (h0 : 0 ≤ y0) (hy : y0 ≤ b) (hb : 0 ≤ b) : q * (y1 * b + y0) ≤ h * b + l := by
  refine tri_ok e ?_
  have a1 : q * y0 ≤ b * y0 := Int.mul_le_mul_of_nonneg_right hq h0
  have a2 : b * y0 ≤ b * b := Int.mul_le_mul_of_nonneg_left hy hb
  have a3 : b * b ≤ b * r := Int.mul_le_mul_of_nonneg_left hr hb
  omega
theorem tri_next {q r y1 h : Int} (e : q * y1 + r = h) : (q - 1) * y1 + (r + y1) = h := by rw [Int.sub_mul, Int.one_mul]; omega
theorem tri_top {h y1 y0 b : Int} (hy : 0 < y1) (h2 : b ≤ 2 * y1) (hh : h < y1 * b + y0) (h0 : y0 < b) (hb : 0 < b) : h / y1 ≤ b + 1 := by
  have : h < (b + 2) * y1 := by rw [Int.add_mul, Int.mul_comm b]; omega
  have := Int.ediv_lt_of_lt_mul hy this
  omega
theorem tri_T {h D b l : Int} (hh : h < D) (hl : l < b) (hb : 0 < b) : h * b + l < b * D := by
  have : (h + 1) * b ≤ D * b := Int.mul_le_mul_of_nonneg_right hh (Int.le_of_lt hb)
  rw [Int.add_mul, Int.one_mul] at this
  rw [Int.mul_comm b D]; omega
theorem land_limb {x x' y y' : Nat} (h : x < 2 ^ 64) (h' : x' < 2 ^ 64) : (2 ^ 64 * y + x) &&& (2 ^ 64 * y' + x') = 2 ^ 64 * (y &&& y') + (x &&& x') := by
  refine Nat.eq_of_testBit_eq fun i => ?_
  rw [Nat.testBit_and, Nat.testBit_two_pow_mul_add _ h, Nat.testBit_two_pow_mul_add _ h', Nat.testBit_two_pow_mul_add _ (Nat.and_lt_two_pow x h')]
  split <;> simp
theorem lor_limb {x x' y y' : Nat} (h : x < 2 ^ 64) (h' : x' < 2 ^ 64) : (2 ^ 64 * y + x) ||| (2 ^ 64 * y' + x') = 2 ^ 64 * (y ||| y') + (x ||| x') := by
  refine Nat.eq_of_testBit_eq fun i => ?_
  rw [Nat.testBit_or, Nat.testBit_two_pow_mul_add _ h, Nat.testBit_two_pow_mul_add _ h', Nat.testBit_two_pow_mul_add _ (Nat.or_lt_two_pow h h')]
  split <;> simp
theorem lxor_limb {x x' y y' : Nat} (h : x < 2 ^ 64) (h' : x' < 2 ^ 64) : (2 ^ 64 * y + x) ^^^ (2 ^ 64 * y' + x') = 2 ^ 64 * (y ^^^ y') + (x ^^^ x') := by
  refine Nat.eq_of_testBit_eq fun i => ?_
  rw [Nat.testBit_xor, Nat.testBit_two_pow_mul_add _ h, Nat.testBit_two_pow_mul_add _ h', Nat.testBit_two_pow_mul_add _ (Nat.xor_lt_two_pow h h')]
  split <;> simp
theorem bOr_comm (a b : Int) : bOr a b = bOr b a := by unfold bOr; rw [al_voc]
theorem pow64 {r : Nat} (h : r ≤ 64) : (2:Int) ^ (64 - r) * 2 ^ r = 18446744073709551616 := by rw [← Int.pow_add, show 64 - r + r = 64 by omega]; rfl
theorem pow2_pos (r : Nat) : (0:Int) < 2 ^ r := Int.pow_pos (by decide)
theorem shl_mod {x : Int} {r : Nat} (hr : r ≤ 64) : x * 2 ^ r % 18446744073709551616 = x % 2 ^ (64 - r) * 2 ^ r := by
  rw [← pow64 hr]
  rw [Int.mul_comm x, Int.mul_comm (2 ^ (64 - r)), Int.mul_emod_mul_of_pos _ _ (pow2_pos r), Int.mul_comm]
theorem shl_parts {x : Int} {r : Nat} (hr : r ≤ 64) : x * 2 ^ r = x / 2 ^ (64 - r) * 18446744073709551616 + x % 2 ^ (64 - r) * 2 ^ r := by
  have e := Int.mul_ediv_add_emod x (2 ^ (64 - r))
  rw [← pow64 hr, ← Int.mul_assoc, ← Int.add_mul, Int.mul_comm (x / _)]
  rw [e]
theorem mod_pow_bd {x : Int} {r : Nat} (hr : r ≤ 64) : 0 ≤ x % 2 ^ (64 - r) * 2 ^ r ∧ x % 2 ^ (64 - r) * 2 ^ r + 2 ^ r ≤ 18446744073709551616 := by
  have h0 := Int.emod_nonneg x (Int.ne_of_gt (pow2_pos (64 - r)))
  have h1 := Int.emod_lt_of_pos x (pow2_pos (64 - r))
  have a1 := Int.mul_nonneg h0 (Int.le_of_lt (pow2_pos r))
  have a2 : (x % 2 ^ (64 - r) + 1) * 2 ^ r ≤ 2 ^ (64 - r) * 2 ^ r := Int.mul_le_mul_of_nonneg_right h1 (Int.le_of_lt (pow2_pos r))
  rw [pow64 hr, Int.add_mul, Int.one_mul] at a2
  exact ⟨a1, a2⟩
theorem div_pow_bd {y : Int} {r : Nat} (hr : r ≤ 64) (hy : 0 ≤ y ∧ y ≤ 18446744073709551615) : 0 ≤ y / 2 ^ (64 - r) ∧ y / 2 ^ (64 - r) < 2 ^ r := by
  refine ⟨Int.ediv_nonneg hy.1 (Int.le_of_lt (pow2_pos _)), Int.ediv_lt_of_lt_mul (pow2_pos _) ?_⟩
  rw [Int.mul_comm, pow64 hr]; omega
theorem or_up {x y : Int} {r : Nat} (hr : r ≤ 64) (hy : 0 ≤ y ∧ y < 2 ^ r) : bOr (x * 2 ^ r % 18446744073709551616) y = x % 2 ^ (64 - r) * 2 ^ r + y := by
  have h1 := mod_pow_bd (x := x) hr
  rw [shl_mod hr, bOr_comm, bOr_shl r hy.1 hy.2 (Int.emod_nonneg _ (Int.ne_of_gt (pow2_pos _))) (by omega), Int.add_comm]
theorem shr_mod {x : Int} {r : Nat} (hr : r ≤ 64) : x * 2 ^ (64 - r) % 18446744073709551616 = x % 2 ^ r * 2 ^ (64 - r) := by
  have := shl_mod (x := x) (r := 64 - r) (by omega)
  rwa [show 64 - (64 - r) = r by omega] at this
theorem or_dn {x y : Int} {r : Nat} (hr : r ≤ 64) (hx : 0 ≤ x ∧ x ≤ 18446744073709551615) : bOr (x / 2 ^ r) (y * 2 ^ (64 - r) % 18446744073709551616) = x / 2 ^ r + y % 2 ^ r * 2 ^ (64 - r) := by
  have h1 := div_pow_bd (y := x) (r := 64 - r) (by omega) hx
  rw [show 64 - (64 - r) = r by omega] at h1
  have h2 := mod_pow_bd (x := y) (r := 64 - r) (by omega)
  rw [show 64 - (64 - r) = r by omega] at h2
  rw [shr_mod hr, bOr_shl (64 - r) h1.1 h1.2 (Int.emod_nonneg _ (Int.ne_of_gt (pow2_pos _))) (by omega)]
theorem up_alg {A c E Z P K x c' u F : Int} (h : A + c * E = Z * (P * K)) (hE : E = F * K) (hx : x * P = c' * 18446744073709551616 + u) : A + (u + c) * E + c' * (E * 18446744073709551616) = (Z + x * F) * (P * K) := by
  have e1 : x * F * (P * K) = x * P * (F * K) := by
    rw [Int.mul_assoc, Int.mul_assoc, ← Int.mul_assoc F P K, Int.mul_comm F P, Int.mul_assoc P F K]
  rw [Int.add_mul Z, e1, hx, ← hE, ← h, Int.add_mul u c, Int.add_mul _ u, Int.mul_assoc c', Int.mul_comm E]
  omega
/-- shifting down: one limb more -/
theorem dn_alg {A m Z x n F P Q d : Int} (h : P * A + m = Z + x % P * F) (hPQ : Q * P = 18446744073709551616) (hd : d = x / P + n * Q) : P * (A + d * F) + m = Z + x * F + n * (F * 18446744073709551616) := by
  have e := Int.mul_ediv_add_emod x P
  have e2 : P * (d * F) = x * F - x % P * F + n * (F * 18446744073709551616) := by
    have e3 : P * (x / P) = x - x % P := by omega
    rw [hd, Int.add_mul, Int.mul_add, ← Int.mul_assoc P (x / P), e3, Int.sub_mul, ← hPQ]
    have : P * (n * Q * F) = n * (F * (Q * P)) := by
      rw [Int.mul_comm P, Int.mul_assoc n, Int.mul_assoc n, Int.mul_comm Q F, Int.mul_assoc F]
    omega
  rw [Int.mul_add, e2]
  omega
theorem exp_odd {p a e M T : Nat} (h : p * a ^ (2 * e + 1) % M = T) : (p * a % M) * (a * a % M) ^ e % M = T := by
  rw [← h, Nat.mul_mod, Nat.mod_mod, ← Nat.pow_mod, ← Nat.mul_mod, Nat.pow_succ, Nat.pow_mul, Nat.pow_two, Nat.mul_assoc p a, Nat.mul_comm a]
theorem exp_even {p a e M T : Nat} (h : p * a ^ (2 * e) % M = T) : p * (a * a % M) ^ e % M = T := by
  rw [← h, Nat.mul_mod, ← Nat.pow_mod, ← Nat.mul_mod, Nat.pow_mul, Nat.pow_two]
theorem exp_none {p a e M T : Nat} (h : p * a ^ (e + 1) % M = T) (h0 : a = 0) : T = 0 := by
  subst h0; rw [← h, Nat.pow_succ]; simp
theorem bit_split (b k : Nat) : b / 2 ^ k = 2 * (b / 2 ^ (k + 1)) + (if Nat.testBit b k then 1 else 0) := by
  rw [Nat.testBit_eq_decide_div_mod_eq, Nat.pow_succ, ← Nat.div_div_eq_div_mul]
  split
  · rename_i h; simp only [al_ete] at h; omega
  · rename_i h; simp only [al_ete] at h; omega
/-- bit k of a number of limbs: the limb's bit -/
theorem limb_bit {x y : Nat} {i : Nat} (hx : x < 2 ^ 64) : Nat.testBit (2 ^ 64 * y + x) i = if i < 64 then Nat.testBit x i else Nat.testBit y (i - 64) := Nat.testBit_two_pow_mul_add _ hx _
theorem shl_step {R X : List Int} {i k r : Nat} {c y : Int} (hi : k ≤ i) (hiR : i < R.length) (hr : r ≤ 64) (h : lvr R 0 i + c * 18446744073709551616 ^ i = lvr X 0 (i - k) * (2 ^ r * 18446744073709551616 ^ k)) (hy : y = X.getD (i - k) 0 % 2 ^ (64 - r) * 2 ^ r + c) : lvr (R.set i y) 0 (i + 1) + X.getD (i - k) 0 / 2 ^ (64 - r) * 18446744073709551616 ^ (i + 1) = lvr X 0 (i + 1 - k) * (2 ^ r * 18446744073709551616 ^ k) := by
  have e1 := lvr_set_last (L := R) (o := 0) (n := i) (y := y) (by omega)
  rw [Nat.zero_add] at e1
  have e2 := lvr_succ X 0 (i - k)
  rw [Nat.zero_add] at e2
  rw [e1, show i + 1 - k = i - k + 1 by omega, e2, Int.pow_succ, hy]
  exact up_alg h (by rw [← Int.pow_add]; congr 1; omega) (shl_parts hr)
theorem shl_fin {X R : List Int} {k r : Nat} (hX : UL X) (hR : UL R) (hk : k ≤ 4) {c : Int} (h : lvr R 0 4 + c * 18446744073709551616 ^ 4 = lvr X 0 (4 - k) * (2 ^ r * 18446744073709551616 ^ k)) : lvr R 0 4 = lvr X 0 4 * 2 ^ (64 * k + r) % 115792089237316195423570985008687907853269984665640564039457584007913129639936 := by
  have hb := lvr_bd hR 0 4
  have hp : (18446744073709551616 : Int) ^ 4 = 115792089237316195423570985008687907853269984665640564039457584007913129639936 := by decide
  have hp4 : (18446744073709551616 : Int) ^ (4 - k) * 18446744073709551616 ^ k = 115792089237316195423570985008687907853269984665640564039457584007913129639936 := by rw [← Int.pow_add, show 4 - k + k = 4 by omega, hp]
  have hs := lvr_split X 0 (4 - k) k
  rw [show 4 - k + k = 4 by omega] at hs
  have e64 : (2:Int) ^ (64 * k + r) = 2 ^ r * 18446744073709551616 ^ k := by rw [Int.pow_add, Int.pow_mul, Int.mul_comm]; rfl
  have e : lvr X 0 4 * 2 ^ (64 * k + r) = lvr R 0 4 + 115792089237316195423570985008687907853269984665640564039457584007913129639936 * (c + lvr X (0 + (4 - k)) k * 2 ^ r) := by
    rw [e64, hs, Int.add_mul, ← h, hp, ← hp4, Int.mul_add, Int.mul_comm c]
    have : 18446744073709551616 ^ (4 - k) * lvr X (0 + (4 - k)) k * (2 ^ r * 18446744073709551616 ^ k) = 18446744073709551616 ^ (4 - k) * 18446744073709551616 ^ k * (lvr X (0 + (4 - k)) k * 2 ^ r) := by
      rw [Int.mul_assoc, Int.mul_assoc, ← Int.mul_assoc (lvr X _ k), Int.mul_comm (lvr X _ k * 2 ^ r)]
    omega
  rw [hp] at hb
  rw [e, Int.add_mul_emod_self_left, Int.emod_eq_of_lt hb.1 hb.2]
theorem dn_step {R X : List Int} {i k r : Nat} {m n y : Int} (hi : k ≤ i) (hiR : i - k < R.length) (hr : r ≤ 64) (h : 2 ^ r * lvr R 0 (i - k) + m = lvr X k (i - k) + X.getD i 0 % 2 ^ r * 18446744073709551616 ^ (i - k)) (hy : y = X.getD i 0 / 2 ^ r + n * 2 ^ (64 - r)) : 2 ^ r * lvr (R.set (i - k) y) 0 (i + 1 - k) + m = lvr X k (i + 1 - k) + n * 18446744073709551616 ^ (i + 1 - k) := by
  have e1 := lvr_set_last (L := R) (o := 0) (n := i - k) (y := y) (by omega)
  rw [Nat.zero_add] at e1
  rw [show i + 1 - k = i - k + 1 by omega, e1, lvr_succ, show k + (i - k) = i by omega, Int.pow_succ]
  exact dn_alg h (pow64 hr) hy
theorem lvr_fill {R : List Int} {f : Int} {a : Nat} : ∀ b, (∀ j, a ≤ j → j < a + b → R.getD j 0 = f) → (lvr R 0 (a + b) - lvr R 0 a) * 18446744073709551615 = f * (18446744073709551616 ^ (a + b) - 18446744073709551616 ^ a)
  | 0, _ => by simp
  | b + 1, h => by
    have ih := lvr_fill b (fun j h1 h2 => h j h1 (by omega))
    rw [← Nat.add_assoc, lvr_succ, Nat.zero_add, h (a + b) (by omega) (by omega), Int.pow_succ]
    have e : f * (18446744073709551616 ^ (a + b) * 18446744073709551616 - 18446744073709551616 ^ a) = f * (18446744073709551616 ^ (a + b) - 18446744073709551616 ^ a) + f * 18446744073709551616 ^ (a + b) * 18446744073709551615 := by
      rw [Int.mul_sub, Int.mul_sub, ← Int.mul_assoc]; omega
    rw [e, ← ih]
    omega
theorem dn_fin0 {R X : List Int} {k r : Nat} {m : Int} (hX : UL X) (hk : k ≤ 3) (hr : r ≤ 63) (hm : 0 ≤ m ∧ m < 2 ^ r) (h : 2 ^ r * lvr R 0 (4 - k) + m = lvr X k (4 - k)) (hf : ∀ j, 4 - k ≤ j → j < 4 → R.getD j 0 = 0) : lvr R 0 4 = lvr X 0 4 / 2 ^ (64 * k + r) := by
  have e1 := lvr_fill (R := R) (f := 0) (a := 4 - k) k (fun j h1 h2 => hf j h1 (by omega))
  rw [show 4 - k + k = 4 by omega] at e1
  have e2 : lvr R 0 4 = lvr R 0 (4 - k) := by omega
  have hs := lvr_split X 0 k (4 - k)
  rw [show k + (4 - k) = 4 by omega, Nat.zero_add] at hs
  have hb := lvr_bd hX 0 k
  have hd : lvr X 0 4 / 18446744073709551616 ^ k = lvr X k (4 - k) := by
    rw [hs, Int.add_mul_ediv_left _ _ (Int.ne_of_gt (lpow_pos k)), Int.ediv_eq_zero_of_lt hb.1 hb.2]; omega
  have e3 : lvr X k (4 - k) / 2 ^ r = lvr R 0 (4 - k) := by
    rw [← h, Int.add_comm, Int.add_mul_ediv_left _ _ (Int.ne_of_gt (pow2_pos r)), Int.ediv_eq_zero_of_lt hm.1 hm.2]; omega
  rw [Int.pow_add, Int.pow_mul, ← Int.ediv_ediv_of_nonneg (by exact Int.le_of_lt (lpow_pos k))]
  have : ((2:Int) ^ 64) ^ k = 18446744073709551616 ^ k := rfl
  rw [this, hd, e3, e2]
theorem dn_fin1 {R X : List Int} {k r : Nat} {m : Int} (hX : UL X) (hk : k ≤ 3) (hr : r ≤ 63) (hm : 0 ≤ m ∧ m < 2 ^ r) (h : 2 ^ r * lvr R 0 (4 - k) + m = lvr X k (4 - k) + (2 ^ r - 1) * 18446744073709551616 ^ (4 - k)) (hf : ∀ j, 4 - k ≤ j → j < 4 → R.getD j 0 = 18446744073709551615) : lvr R 0 4 = 115792089237316195423570985008687907853269984665640564039457584007913129639936 - 1 - (115792089237316195423570985008687907853269984665640564039457584007913129639936 - 1 - lvr X 0 4) / 2 ^ (64 * k + r) := by
  have e1 := lvr_fill (R := R) (f := 18446744073709551615) (a := 4 - k) k (fun j h1 h2 => hf j h1 (by omega))
  rw [show 4 - k + k = 4 by omega, show (18446744073709551616 : Int) ^ 4 = 115792089237316195423570985008687907853269984665640564039457584007913129639936 from by decide] at e1
  have hs := lvr_split X 0 k (4 - k)
  rw [show k + (4 - k) = 4 by omega, Nat.zero_add] at hs
  have hb := lvr_bd hX 0 k
  have hd : lvr X 0 4 / 18446744073709551616 ^ k = lvr X k (4 - k) := by
    rw [hs, Int.add_mul_ediv_left _ _ (Int.ne_of_gt (lpow_pos k)), Int.ediv_eq_zero_of_lt hb.1 hb.2]; omega
  -- S = 2^(64k+r), M = S * G
  have hG : (2:Int) ^ (64 * k + r) * (2 ^ (64 - r) * 18446744073709551616 ^ (3 - k)) = 115792089237316195423570985008687907853269984665640564039457584007913129639936 := by
    have : (18446744073709551616 : Int) = 2 ^ 64 := by decide
    rw [this, ← Int.pow_mul, ← Int.pow_add, ← Int.pow_add, show 64 * k + r + (64 - r + 64 * (3 - k)) = 256 by omega]; decide
  have hPG : (2:Int) ^ r * (2 ^ (64 - r) * 18446744073709551616 ^ (3 - k)) = 18446744073709551616 ^ (4 - k) := by
    rw [← Int.mul_assoc, Int.mul_comm (2 ^ r), pow64 (by omega), Int.mul_comm, ← Int.pow_succ, show (3 - k).succ = 4 - k by omega]
  generalize hg : (2:Int) ^ (64 - r) * 18446744073709551616 ^ (3 - k) = G at hG hPG
  have hSpos : (0:Int) < 2 ^ (64 * k + r) := pow2_pos _
  have hq : lvr X 0 4 / 2 ^ (64 * k + r) = lvr X k (4 - k) / 2 ^ r := by
    rw [Int.pow_add, Int.pow_mul, ← Int.ediv_ediv_of_nonneg (by exact Int.le_of_lt (lpow_pos k))]
    have : ((2:Int) ^ 64) ^ k = 18446744073709551616 ^ k := rfl
    rw [this, hd]
  -- Z = P * (A - B^(4-k) + G) + m
  have hZ : lvr X k (4 - k) = m + 2 ^ r * (lvr R 0 (4 - k) - 18446744073709551616 ^ (4 - k) + G) := by
    rw [Int.mul_add, Int.mul_sub, hPG]
    rw [Int.sub_mul, Int.one_mul] at h
    omega
  have hq2 : lvr X k (4 - k) / 2 ^ r = lvr R 0 (4 - k) - 18446744073709551616 ^ (4 - k) + G := by
    rw [hZ, Int.add_mul_ediv_left _ _ (Int.ne_of_gt (pow2_pos r)), Int.ediv_eq_zero_of_lt hm.1 hm.2]; omega
  have hneg : (115792089237316195423570985008687907853269984665640564039457584007913129639936 - 1 - lvr X 0 4) / 2 ^ (64 * k + r) = G - 1 - lvr X 0 4 / 2 ^ (64 * k + r) := by
    have d1 := Int.mul_ediv_add_emod (lvr X 0 4) (2 ^ (64 * k + r))
    have d2 := Int.emod_nonneg (lvr X 0 4) (Int.ne_of_gt hSpos)
    have d3 := Int.emod_lt_of_pos (lvr X 0 4) hSpos
    have : 115792089237316195423570985008687907853269984665640564039457584007913129639936 - 1 - lvr X 0 4 = (2 ^ (64 * k + r) - 1 - lvr X 0 4 % 2 ^ (64 * k + r)) + 2 ^ (64 * k + r) * (G - 1 - lvr X 0 4 / 2 ^ (64 * k + r)) := by
      rw [Int.mul_sub, Int.mul_sub, hG]; omega
    rw [this, Int.add_mul_ediv_left _ _ (Int.ne_of_gt hSpos), Int.ediv_eq_zero_of_lt (by omega) (by omega)]; omega
  rw [hneg, hq, hq2]
  omega
theorem tt_alg {A a c d E u y lo hi s k q X : Int} (h : A - q * a = X - (c + d) * E) (h1 : lo + hi * 18446744073709551616 = q * y + c) (h2 : s - k * 18446744073709551616 = u - lo - d) : (A + u * E) - q * (a + y * E) = (X + s * E) - (hi + k) * (E * 18446744073709551616) := by
  have e1 : q * (a + y * E) = q * a + q * y * E := by rw [Int.mul_add, Int.mul_assoc]
  have e2 : q * y = lo + hi * 18446744073709551616 - c := by omega
  have e3 : u = s - k * 18446744073709551616 + lo + d := by omega
  rw [e1, e2, e3]
  have r1 : (lo + hi * 18446744073709551616 - c) * E = lo * E + hi * (E * 18446744073709551616) - c * E := by rw [Int.sub_mul, Int.add_mul, Int.mul_assoc hi, Int.mul_comm 18446744073709551616 E]
  have r2 : (s - k * 18446744073709551616 + lo + d) * E = s * E - k * (E * 18446744073709551616) + lo * E + d * E := by rw [Int.add_mul, Int.add_mul, Int.sub_mul, Int.mul_assoc k, Int.mul_comm 18446744073709551616 E]
  have r3 : (hi + k) * (E * 18446744073709551616) = hi * (E * 18446744073709551616) + k * (E * 18446744073709551616) := by rw [Int.add_mul]
  have r4 : (c + d) * E = c * E + d * E := by rw [Int.add_mul]
  omega
theorem tt_step {U L Y : List Int} {ou ov i : Nat} {c d lo hi s k q : Int} (hl : ou + i < L.length) (hu : L.getD (ou + i) 0 = U.getD (ou + i) 0) (h : lvr U ou i - q * lvr Y ov i = lvr L ou i - (c + d) * 18446744073709551616 ^ i) (h1 : lo + hi * 18446744073709551616 = q * Y.getD (ov + i) 0 + c) (h2 : s - k * 18446744073709551616 = L.getD (ou + i) 0 - lo - d) : lvr U ou (i + 1) - q * lvr Y ov (i + 1) = lvr (L.set (ou + i) s) ou (i + 1) - (hi + k) * 18446744073709551616 ^ (i + 1) := by
  rw [lvr_set_last hl, lvr_succ, lvr_succ, Int.pow_succ]
  rw [hu] at h2
  exact tt_alg h h1 h2
theorem pb_alg {A a c E u y s k X : Int} (h : A + a = X + c * E) (h2 : s + k * 18446744073709551616 = u + y + c) : (A + u * E) + (a + y * E) = (X + s * E) + k * (E * 18446744073709551616) := by
  have e3 : u = s + k * 18446744073709551616 - y - c := by omega
  rw [e3]
  have r2 : (s + k * 18446744073709551616 - y - c) * E = s * E + k * (E * 18446744073709551616) - y * E - c * E := by rw [Int.sub_mul, Int.sub_mul, Int.add_mul, Int.mul_assoc k, Int.mul_comm 18446744073709551616 E]
  omega
theorem pb_step {U L Y : List Int} {ou ov i : Nat} {c s k : Int} (hl : ou + i < L.length) (hu : L.getD (ou + i) 0 = U.getD (ou + i) 0) (h : lvr U ou i + lvr Y ov i = lvr L ou i + c * 18446744073709551616 ^ i) (h2 : s + k * 18446744073709551616 = L.getD (ou + i) 0 + Y.getD (ov + i) 0 + c) : lvr U ou (i + 1) + lvr Y ov (i + 1) = lvr (L.set (ou + i) s) ou (i + 1) + k * 18446744073709551616 ^ (i + 1) := by
  rw [lvr_set_last hl, lvr_succ, lvr_succ, Int.pow_succ]
  rw [hu] at h2
  exact pb_alg h h2
/-- limbs that are equal from i on -/
theorem lvr_lt_at {U Y : List Int} (hU : UL U) (hY : UL Y) {ou ov i : Nat} : ∀ b, (∀ k, i < k → k < i + 1 + b → U.getD (ou + k) 0 = Y.getD (ov + k) 0) → U.getD (ou + i) 0 < Y.getD (ov + i) 0 → lvr U ou (i + 1 + b) < lvr Y ov (i + 1 + b)
  | 0, _, h => by
    have a1 := (lvr_bd hU ou i).2
    have a2 := (lvr_bd hY ov i).1
    have a3 : (U.getD (ou + i) 0 + 1) * 18446744073709551616 ^ i ≤ Y.getD (ov + i) 0 * 18446744073709551616 ^ i := Int.mul_le_mul_of_nonneg_right h (Int.le_of_lt (lpow_pos i))
    rw [Int.add_mul, Int.one_mul] at a3
    show lvr U ou i + _ < lvr Y ov i + _
    omega
  | b + 1, he, h => by
    have ih := lvr_lt_at hU hY b (fun k h1 h2 => he k h1 (by omega)) h
    rw [← Nat.add_assoc, lvr_succ, lvr_succ, he (i + 1 + b) (by omega) (by omega)]
    omega
theorem lvr_pow {L : List Int} {o n : Nat} (h : UL L) (hn : 0 < n) (ht : L.getD (o + (n - 1)) 0 ≠ 0) : 18446744073709551616 ^ (n - 1) ≤ lvr L o n := by
  obtain ⟨m, rfl⟩ : ∃ m, n = m + 1 := ⟨n - 1, by omega⟩
  rw [lvr_succ]
  rw [Nat.add_sub_cancel] at ht ⊢
  have h0 := (lvr_bd h o m).1
  have h1 := (h.get (o + m)).1
  have : 1 * 18446744073709551616 ^ m ≤ L.getD (o + m) 0 * 18446744073709551616 ^ m := Int.mul_le_mul_of_nonneg_right (by omega) (Int.le_of_lt (lpow_pos m))
  omega
/-- the three top limbs and what lies below -/
theorem lvr_three {L : List Int} {o n : Nat} (hn : 2 ≤ n) : lvr L o (n + 1) = ((L.getD (o + n) 0 * 18446744073709551616 + L.getD (o + (n - 1)) 0) * 18446744073709551616 + L.getD (o + (n - 2)) 0) * 18446744073709551616 ^ (n - 2) + lvr L o (n - 2) := by
  obtain ⟨m, rfl⟩ : ∃ m, n = m + 2 := ⟨n - 2, by omega⟩
  rw [show m + 2 + 1 = m + 1 + 1 + 1 from rfl, lvr_succ, lvr_succ, lvr_succ, Int.pow_succ, Int.pow_succ]
  simp only [Nat.add_sub_cancel, show m + 2 - 1 = m + 1 from rfl, show m + 1 + 1 = m + 2 from rfl]
  rw [Int.add_mul, Int.add_mul, Int.add_mul, Int.mul_assoc, Int.mul_assoc, Int.mul_assoc]
  have e1 : (18446744073709551616 : Int) ^ m * 18446744073709551616 = 18446744073709551616 * 18446744073709551616 ^ m := Int.mul_comm _ _
  have e2 : (18446744073709551616 : Int) ^ (m + 1) * 18446744073709551616 = 18446744073709551616 * (18446744073709551616 * 18446744073709551616 ^ m) := by rw [Int.pow_succ]; omega
  rw [e1, e2]
  omega
theorem lvr_two {L : List Int} {o n : Nat} (hn : 2 ≤ n) : lvr L o n = (L.getD (o + (n - 1)) 0 * 18446744073709551616 + L.getD (o + (n - 2)) 0) * 18446744073709551616 ^ (n - 2) + lvr L o (n - 2) := by
  obtain ⟨m, rfl⟩ : ∃ m, n = m + 2 := ⟨n - 2, by omega⟩
  rw [show m + 2 = m + 1 + 1 from rfl, lvr_succ, lvr_succ, Int.pow_succ]
  simp only [Nat.add_sub_cancel, show m + 1 + 1 - 1 = m + 1 from rfl, show m + 1 + 1 - 2 = m from rfl]
  rw [Int.add_mul, Int.mul_assoc, Int.mul_comm 18446744073709551616]
  omega
theorem up_step {L L2 : List Int} {o i r : Nat} {c y : Int} (hl : o + i < L2.length) (hr : r ≤ 64) (h : lvr L2 o i + c * 18446744073709551616 ^ i = lvr L o i * 2 ^ r) (hy : y = L.getD (o + i) 0 % 2 ^ (64 - r) * 2 ^ r + c) : lvr (L2.set (o + i) y) o (i + 1) + L.getD (o + i) 0 / 2 ^ (64 - r) * 18446744073709551616 ^ (i + 1) = lvr L o (i + 1) * 2 ^ r := by
  rw [lvr_set_last hl, lvr_succ, Int.pow_succ, hy]
  have := up_alg (K := 1) (F := 18446744073709551616 ^ i) (P := 2 ^ r) (x := L.getD (o + i) 0) (A := lvr L2 o i) (c := c) (E := 18446744073709551616 ^ i) (Z := lvr L o i) (by rw [Int.mul_one]; exact h) (by rw [Int.mul_one]) (shl_parts hr)
  rw [Int.mul_one] at this
  exact this
theorem dn2_alg {S P A e l y Q : Int} (hS : S = P * A + e) (hQ : Q * P = 18446744073709551616) (hd : y = l / P + e * Q) : l + 18446744073709551616 * S = P * (y + 18446744073709551616 * A) + l % P := by
  have e1 := Int.mul_ediv_add_emod l P
  have e2 : P * (e * Q) = 18446744073709551616 * e := by rw [← hQ, Int.mul_comm, Int.mul_assoc, Int.mul_comm]
  have e3 : P * (18446744073709551616 * A) = 18446744073709551616 * (P * A) := by rw [← Int.mul_assoc, Int.mul_comm P, Int.mul_assoc]
  rw [hd, hS, Int.mul_add P, Int.mul_add P, e2, e3, Int.mul_add]
  omega
theorem dn2_step {L L2 : List Int} {o m n r : Nat} {e y : Int} (hm : 0 < m) (hmn : m ≤ n) (hl : o + n ≤ L2.length) (hr : r ≤ 64) (h : lvr L (o + m) (n - m) = 2 ^ r * lvr L2 (o + m) (n - m) + e) (hy : y = L.getD (o + (m - 1)) 0 / 2 ^ r + e * 2 ^ (64 - r)) : lvr L (o + (m - 1)) (n - (m - 1)) = 2 ^ r * lvr (L2.set (o + (m - 1)) y) (o + (m - 1)) (n - (m - 1)) + L.getD (o + (m - 1)) 0 % 2 ^ r := by
  rw [show n - (m - 1) = n - m + 1 by omega, lvr_head, lvr_head, show o + (m - 1) + 1 = o + m by omega, lvr_set_out (Or.inl (by omega)), getD_setI, if_pos ⟨rfl, by omega⟩]
  exact dn2_alg h (pow64 hr) hy
theorem sh_step {L L2 : List Int} {m n : Nat} {r y q r' : Int} (hm : 0 < m) (hmn : m ≤ n) (hl : n ≤ L2.length) (h : lvr L m (n - m) = lvr L2 m (n - m) * y + r) (hq : q * y + r' = r * 18446744073709551616 + L.getD (m - 1) 0) : lvr L (m - 1) (n - (m - 1)) = lvr (L2.set (m - 1) q) (m - 1) (n - (m - 1)) * y + r' := by
  rw [show n - (m - 1) = n - m + 1 by omega, lvr_head, lvr_head, show m - 1 + 1 = m by omega, lvr_set_out (Or.inl (by omega)), getD_setI, if_pos ⟨rfl, by omega⟩, h, Int.add_mul, Int.mul_assoc, Int.mul_add]
  omega
theorem tri_init2 {H t x l q r : Int} (e : q * t + r = H) (hr : r < t) (hl : l < 18446744073709551616) (hx : 0 ≤ x) (hq : 0 ≤ q) : H * 18446744073709551616 + l < (q + 1) * (t * 18446744073709551616 + x) := by
  have a1 : H + 1 ≤ (q + 1) * t := by rw [Int.add_mul, Int.one_mul]; omega
  have a3 := Int.mul_nonneg (show 0 ≤ q + 1 by omega) hx
  rw [Int.mul_add, ← Int.mul_assoc]
  omega
theorem lvr_top_le {U Y : List Int} (hU : UL U) (hY : UL Y) {ou ov n : Nat} (hn : 0 < n) (h : lvr U ou n < lvr Y ov n) : U.getD (ou + (n - 1)) 0 ≤ Y.getD (ov + (n - 1)) 0 := by
  rcases Int.lt_or_le (Y.getD (ov + (n - 1)) 0) (U.getD (ou + (n - 1)) 0) with h1 | h1
  · have := lvr_lt_at hY hU (i := n - 1) 0 (fun k h1 h2 => by omega) h1
    rw [show n - 1 + 1 + 0 = n by omega] at this
    omega
  · exact h1
/-- one round of long division, by the numbers -/
theorem round_num {U V q L3 N : Int} (hV : 0 < V) (hVN : V ≤ N) (hL : 0 ≤ L3 ∧ L3 < N * 18446744073709551616) (hU : 0 ≤ U) (hhi : q * V < U + V) (hlo : U < (q + 1) * V) (z : Bool) (h : L3 = U - q * V + (if z = true then N * 18446744073709551616 else 0)) :
    (z = false → U / V = q ∧ U % V = L3) ∧ (z = true → 1 ≤ q ∧ U / V = q - 1 ∧ ∀ L4 k : Int, 0 ≤ L4 ∧ L4 < N * 18446744073709551616 → L4 + k * (N * 18446744073709551616) = L3 + V → U % V = L4) := by
  constructor
  · rintro rfl
    rw [if_neg (by decide)] at h
    have := quot_eq hV (show q * V ≤ U by omega) hlo
    exact ⟨this.1, by rw [this.2]; omega⟩
  · rintro rfl
    rw [if_pos rfl] at h
    have h1 : (q - 1) * V ≤ U := by rw [Int.sub_mul, Int.one_mul]; omega
    have h2 : U < (q - 1 + 1) * V := by rw [show q - 1 + 1 = q by omega]; omega
    have := quot_eq hV h1 h2
    have hq : 1 ≤ q := by
      rcases Int.lt_or_le q 1 with h9 | h9
      · have : q * V ≤ 0 * V := Int.mul_le_mul_of_nonneg_right (by omega) (Int.le_of_lt hV)
        omega
      · exact h9
    refine ⟨hq, this.1, fun L4 k hb he => ?_⟩
    have hr := Int.emod_nonneg U (Int.ne_of_gt hV)
    have hr2 := Int.emod_lt_of_pos U hV
    rw [Int.sub_mul, Int.one_mul] at this
    have e2 : L4 + k * (N * 18446744073709551616) = U % V + N * 18446744073709551616 := by omega
    have hk : k = 1 := by
      rcases Int.lt_or_le k 1 with h9 | h9
      · have : k * (N * 18446744073709551616) ≤ 0 * (N * 18446744073709551616) := Int.mul_le_mul_of_nonneg_right (by omega) (by omega)
        omega
      · rcases Int.lt_or_le 1 k with h8 | h8
        · have : 2 * (N * 18446744073709551616) ≤ k * (N * 18446744073709551616) := Int.mul_le_mul_of_nonneg_right (by omega) (by omega)
          omega
        · omega
    subst hk
    omega

/-- the number of a word -/
def wn (W : List Int) : Nat := (wv W).toNat
theorem wn_int {W : List Int} (h : Wd W) : ((wn W : Nat) : Int) = wv W := Int.toNat_of_nonneg (wv_bd h).1
theorem wn_lt {W : List Int} (h : Wd W) : wn W < 115792089237316195423570985008687907853269984665640564039457584007913129639936 := by have := wn_int h; have := wv_bd h; omega
theorem wn_inj {W X : List Int} (h : Wd W) (h' : Wd X) (e : wn W = wn X) : W = X := wv_inj h h' (by rw [← wn_int h, ← wn_int h', e])
theorem wn_ofV {x : Int} (h0 : 0 ≤ x) (h1 : x < 115792089237316195423570985008687907853269984665640564039457584007913129639936) : wn (ofV x) = x.toNat := by unfold wn; rw [wv_ofV h0 h1]
theorem wn_of {W : List Int} {n : Nat} (h : wv W = (n : Int)) : wn W = n := by unfold wn; rw [h, Int.toNat_natCast]
theorem wv_lvr {W : List Int} (h : Wd W) : wv W = lvr W 0 4 := by
  obtain ⟨a, b, c, d, rfl, ha, hb, hc, hd⟩ := isZ h
  simp [wv, lvr]
theorem Wd.ulx {W : List Int} (h : Wd W) : UL W := h.2
theorem wn_limbs {a b c d : Int} (ha : 0 ≤ a ∧ a ≤ 18446744073709551615) (hb : 0 ≤ b ∧ b ≤ 18446744073709551615) (hc : 0 ≤ c ∧ c ≤ 18446744073709551615) (hd : 0 ≤ d ∧ d ≤ 18446744073709551615) : wn [a, b, c, d] = 2 ^ 64 * (2 ^ 64 * (2 ^ 64 * d.toNat + c.toNat) + b.toNat) + a.toNat := by
  unfold wn; simp only [wv]; omega
end Go.Proofs.YgvacwGreat
