import Derived.Test.YgvacwGreatUo
import Derived.Test.YgvacwGreatJf
import Derived.Test.YgvacwGreatJg
namespace Go.Proofs.YgvacwGreat
set_option linter.unusedSimpArgs false
set_option linter.unusedVariables false
theorem lvr_mid {U U' : List Int} {a c N : Nat} (h : a + c ≤ N) (ho : ∀ k, k < a ∨ a + c ≤ k → U'.getD k 0 = U.getD k 0) : lvr U' 0 N = lvr U 0 N + 18446744073709551616 ^ a * (lvr U' a c - lvr U a c) := by
  obtain ⟨d, rfl⟩ : ∃ d, N = a + (c + d) := ⟨N - a - c, by omega⟩
  rw [lvr_split U' 0 a, lvr_split U 0 a, lvr_split U' (0 + a) c, lvr_split U (0 + a) c, Nat.zero_add]
  rw [lvr_congr (L := U) (L' := U') a (fun k hk => ho _ (by omega)), lvr_congr (L := U) (L' := U') (o := a + c) (o' := a + c) d (fun k hk => ho _ (by omega)), Int.mul_sub, Int.mul_add, Int.mul_add]
  omega
theorem lvr_setm {X : List Int} {k N : Nat} {y : Int} (hk : k < N) (hl : k < X.length) : lvr (X.set k y) 0 N = lvr X 0 N + 18446744073709551616 ^ k * (y - X.getD k 0) := by
  have h := lvr_mid (U := X) (U' := X.set k y) (a := k) (c := 1) (N := N) (by omega) (fun j hj => by rw [getD_setI, if_neg (by omega)])
  rw [h]
  have e1 : lvr (X.set k y) k 1 = y := by simp only [lvr]; rw [Nat.add_zero, getD_setI, if_pos ⟨rfl, hl⟩]; simp
  have e2 : lvr X k 1 = X.getD k 0 := by simp only [lvr]; rw [Nat.add_zero]; simp
  rw [e1, e2]
theorem lvr_top0 {L : List Int} (h : UL L) {o n : Nat} (hl : lvr L o (n + 1) < 18446744073709551616 ^ n) : L.getD (o + n) 0 = 0 := by
  rw [lvr_succ] at hl
  have h0 := (lvr_bd h o n).1
  have h1 := (h.get (o + n)).1
  rcases Int.lt_or_le 0 (L.getD (o + n) 0) with h9 | h9
  · have : 1 * 18446744073709551616 ^ n ≤ L.getD (o + n) 0 * 18446744073709551616 ^ n := Int.mul_le_mul_of_nonneg_right h9 (Int.le_of_lt (lpow_pos n))
    omega
  · omega
theorem lvr_small {L : List Int} (h : UL L) {o a : Nat} : ∀ b, lvr L o (a + b) < 18446744073709551616 ^ a → ∀ k, a ≤ k → k < a + b → L.getD (o + k) 0 = 0
  | 0, _, k, h1, h2 => by omega
  | b + 1, hl, k, h1, h2 => by
    have hmono : lvr L o (a + b) ≤ lvr L o (a + b + 1) := by
      rw [lvr_succ]
      have := Int.mul_nonneg (h.get (o + (a + b))).1 (Int.le_of_lt (lpow_pos (a + b)))
      omega
    rw [← Nat.add_assoc] at hl
    rcases Nat.lt_or_ge k (a + b) with h9 | h9
    · exact lvr_small h b (by omega) k h1 h9
    · have : k = a + b := by omega
      subst this
      refine lvr_top0 h ?_
      have : (18446744073709551616 : Int) ^ a ≤ 18446744073709551616 ^ (a + b) := by
        rw [Int.pow_add]
        have h5 := lpow_pos b
        have : (18446744073709551616 : Int) ^ a * 1 ≤ 18446744073709551616 ^ a * 18446744073709551616 ^ b := Int.mul_le_mul_of_nonneg_left (by omega) (Int.le_of_lt (lpow_pos a))
        omega
      omega
theorem lpow_le {a b : Nat} (h : a ≤ b) : (18446744073709551616 : Int) ^ a ≤ 18446744073709551616 ^ b := by
  obtain ⟨c, rfl⟩ : ∃ c, b = a + c := ⟨b - a, by omega⟩
  rw [Int.pow_add]
  have h5 := lpow_pos c
  have : (18446744073709551616 : Int) ^ a * 1 ≤ 18446744073709551616 ^ a * 18446744073709551616 ^ c := Int.mul_le_mul_of_nonneg_left (by omega) (Int.le_of_lt (lpow_pos a))
  omega
/-- no carry out of a shift up -/
theorem up_exact {L' Z P c : Int} {n : Nat} (h0 : 0 ≤ L') (hc : 0 ≤ c) (h : L' + c * 18446744073709551616 ^ n = Z * P) (hb : Z * P < 18446744073709551616 ^ n) : L' = Z * P := by
  rcases Int.lt_or_le 0 c with h9 | h9
  · have : 1 * 18446744073709551616 ^ n ≤ c * 18446744073709551616 ^ n := Int.mul_le_mul_of_nonneg_right h9 (Int.le_of_lt (lpow_pos n))
    omega
  · have : c = 0 := by omega
    subst this; omega
/-- the divisor shifted up -/
theorem div_up {Y Y' : List Int} (hY : UL Y) (hY' : UL Y') {n ln N : Nat} {c : Int} (hn : 0 < n) (hnN : n ≤ N) (hln : ln ≤ 64) (h1 : Y.getD (n - 1) 0 < 2 ^ ln) (h2 : (2:Int) ^ ln ≤ 2 * Y.getD (n - 1) 0) (hz : ∀ k, n ≤ k → Y.getD k 0 = 0) (hc : 0 ≤ c) (h : lvr Y' 0 N + c * 18446744073709551616 ^ N = lvr Y 0 N * 2 ^ (64 - ln)) :
    lvr Y' 0 N = lvr Y 0 N * 2 ^ (64 - ln) ∧ lvr Y 0 N = lvr Y 0 n ∧ lvr Y' 0 n = lvr Y 0 n * 2 ^ (64 - ln) ∧ (∀ k, n ≤ k → k < N → Y'.getD k 0 = 0) ∧ 9223372036854775808 ≤ Y'.getD (n - 1) 0 ∧ 18446744073709551616 ^ (n - 1) ≤ lvr Y 0 n := by
  have e1 := lvr_zero_from (L := Y) (o := 0) (a := n) (N - n) (fun k h1 h2 => by rw [Nat.zero_add]; exact hz k h1)
  rw [show n + (N - n) = N by omega] at e1
  have e2 := lvr_succ Y 0 (n - 1)
  rw [show n - 1 + 1 = n by omega, Nat.zero_add] at e2
  have hb := lvr_bd hY 0 (n - 1)
  have hp := lpow_pos (n - 1)
  have hq := pow2_pos (64 - ln)
  have hpl := pow64 hln
  have hlt : lvr Y 0 n + 1 ≤ 2 ^ ln * 18446744073709551616 ^ (n - 1) := by
    have : (Y.getD (n - 1) 0 + 1) * 18446744073709551616 ^ (n - 1) ≤ 2 ^ ln * 18446744073709551616 ^ (n - 1) := Int.mul_le_mul_of_nonneg_right (by omega) (Int.le_of_lt hp)
    rw [Int.add_mul, Int.one_mul] at this
    omega
  have hlt2 : (lvr Y 0 n + 1) * 2 ^ (64 - ln) ≤ 18446744073709551616 ^ n := by
    have : (lvr Y 0 n + 1) * 2 ^ (64 - ln) ≤ 2 ^ ln * 18446744073709551616 ^ (n - 1) * 2 ^ (64 - ln) := Int.mul_le_mul_of_nonneg_right hlt (Int.le_of_lt hq)
    rw [Int.mul_assoc, Int.mul_comm (18446744073709551616 ^ (n - 1)), ← Int.mul_assoc, Int.mul_comm (2 ^ ln), hpl, Int.mul_comm 18446744073709551616 (18446744073709551616 ^ (n - 1)), ← Int.pow_succ, show (n - 1).succ = n by omega] at this
    exact this
  rw [Int.add_mul, Int.one_mul] at hlt2
  have hN : lvr Y 0 N * 2 ^ (64 - ln) < 18446744073709551616 ^ n := by rw [e1]; omega
  have hb' := lvr_bd hY' 0 N
  have hex := up_exact hb'.1 hc h (Int.lt_of_lt_of_le hN (lpow_le hnN))
  have hzz := lvr_small hY' (o := 0) (a := n) (N - n) (by rw [show n + (N - n) = N by omega, hex]; exact hN)
  have hz2 : ∀ k, n ≤ k → k < N → Y'.getD k 0 = 0 := fun k h1 h2 => by have := hzz k h1 (by omega); rwa [Nat.zero_add] at this
  have e3 := lvr_zero_from (L := Y') (o := 0) (a := n) (N - n) (fun k h1 h2 => by rw [Nat.zero_add]; exact hz2 k h1 (by omega))
  rw [show n + (N - n) = N by omega] at e3
  have e4 : lvr Y' 0 n = lvr Y 0 n * 2 ^ (64 - ln) := by rw [← e3, hex, e1]
  have hy0 := (hY.get (n - 1)).1
  have hge : 18446744073709551616 ^ (n - 1) * 1 ≤ lvr Y 0 n := by
    have hyp : 1 ≤ Y.getD (n - 1) 0 := by have := pow2_pos ln; omega
    have : 1 * 18446744073709551616 ^ (n - 1) ≤ Y.getD (n - 1) 0 * 18446744073709551616 ^ (n - 1) := Int.mul_le_mul_of_nonneg_right hyp (Int.le_of_lt hp)
    omega
  refine ⟨hex, e1, e4, hz2, ?_, by omega⟩
  -- the top limb
  have e5 := lvr_succ Y' 0 (n - 1)
  rw [show n - 1 + 1 = n by omega, Nat.zero_add] at e5
  have hb5 := lvr_bd hY' 0 (n - 1)
  have hyt := (hY'.get (n - 1)).1
  rcases Int.lt_or_le (Y'.getD (n - 1) 0) 9223372036854775808 with h9 | h9
  · exfalso
    have a1 : (Y'.getD (n - 1) 0 + 1) * 18446744073709551616 ^ (n - 1) ≤ 9223372036854775808 * 18446744073709551616 ^ (n - 1) := Int.mul_le_mul_of_nonneg_right (by omega) (Int.le_of_lt hp)
    rw [Int.add_mul, Int.one_mul] at a1
    have a2 : (2:Int) ^ ln * 18446744073709551616 ^ (n - 1) ≤ 2 * Y.getD (n - 1) 0 * 18446744073709551616 ^ (n - 1) := Int.mul_le_mul_of_nonneg_right h2 (Int.le_of_lt hp)
    have a3 : (2:Int) ^ ln * 18446744073709551616 ^ (n - 1) * 2 ^ (64 - ln) ≤ (2 * lvr Y 0 n) * 2 ^ (64 - ln) := Int.mul_le_mul_of_nonneg_right (by rw [Int.mul_assoc] at a2; omega) (Int.le_of_lt hq)
    rw [Int.mul_assoc, Int.mul_comm (18446744073709551616 ^ (n - 1)), ← Int.mul_assoc, Int.mul_comm (2 ^ ln), hpl, Int.mul_assoc, ← e4] at a3
    omega
  · exact h9
/-- the dividend at the start -/
theorem div_start {U Y' X : List Int} (hU : UL U) {n q N : Nat} {Xv S : Int} (hn : 0 < n) (hnq : n ≤ q) (hqN : q + 1 ≤ N) (hS : 0 < S ∧ S ≤ 18446744073709551616) (hX : 0 ≤ Xv ∧ Xv < 18446744073709551616 ^ q) (h : lvr U 0 N = Xv * S) {V Yv : Int} (hV : V = Yv * S) (hYv : 18446744073709551616 ^ (n - 1) ≤ Yv) : (∀ k, q + 1 ≤ k → k < N → U.getD k 0 = 0) ∧ lvr U (q - n + 1) n < V := by
  have h1 : Xv * S < 18446744073709551616 ^ (q + 1) := by
    have : Xv * S ≤ Xv * 18446744073709551616 := Int.mul_le_mul_of_nonneg_left hS.2 hX.1
    have : (Xv + 1) * 18446744073709551616 ≤ 18446744073709551616 ^ q * 18446744073709551616 := Int.mul_le_mul_of_nonneg_right hX.2 (by decide)
    rw [Int.pow_succ]; omega
  have hz := lvr_small hU (o := 0) (a := q + 1) (N - (q + 1)) (by rw [show q + 1 + (N - (q + 1)) = N by omega, h]; exact h1)
  have hz2 : ∀ k, q + 1 ≤ k → k < N → U.getD k 0 = 0 := fun k h1 h2 => by have := hz k h1 (by omega); rwa [Nat.zero_add] at this
  refine ⟨hz2, ?_⟩
  have e1 := lvr_zero_from (L := U) (o := 0) (a := q + 1) (N - (q + 1)) (fun k h1 h2 => by rw [Nat.zero_add]; exact hz2 k h1 (by omega))
  rw [show q + 1 + (N - (q + 1)) = N by omega, h] at e1
  have e2 := lvr_split U 0 (q - n + 1) n
  rw [show q - n + 1 + n = q + 1 by omega, Nat.zero_add] at e2
  have hb := (lvr_bd hU 0 (q - n + 1)).1
  rcases Int.lt_or_le (lvr U (q - n + 1) n) V with h9 | h9
  · exact h9
  · exfalso
    have a1 : 18446744073709551616 ^ (q - n + 1) * V ≤ 18446744073709551616 ^ (q - n + 1) * lvr U (q - n + 1) n := Int.mul_le_mul_of_nonneg_left h9 (Int.le_of_lt (lpow_pos _))
    have a2 : 18446744073709551616 ^ (n - 1) * S ≤ Yv * S := Int.mul_le_mul_of_nonneg_right hYv (Int.le_of_lt hS.1)
    have a3 : 18446744073709551616 ^ (q - n + 1) * (18446744073709551616 ^ (n - 1) * S) ≤ 18446744073709551616 ^ (q - n + 1) * V := Int.mul_le_mul_of_nonneg_left (by rw [hV]; exact a2) (Int.le_of_lt (lpow_pos _))
    rw [← Int.mul_assoc, ← Int.pow_add, show q - n + 1 + (n - 1) = q by omega] at a3
    have a4 : Xv * S + S ≤ 18446744073709551616 ^ q * S := by
      have : (Xv + 1) * S ≤ 18446744073709551616 ^ q * S := Int.mul_le_mul_of_nonneg_right hX.2 (Int.le_of_lt hS.1)
      rw [Int.add_mul, Int.one_mul] at this
      exact this
    omega
/-- one round within the whole -/
theorem div_round {U U' X : List Int} (hU' : UL U') {n j N NX : Nat} {q V A : Int} (hj : 0 < j) (hjn : j + n ≤ N) (hjX : j ≤ NX) (hXl : NX ≤ X.length) (hV : 0 < V) (hVn : V ≤ 18446744073709551616 ^ n) (hX0 : X.getD (j - 1) 0 = 0) (hinv : A = lvr X 0 NX * V + lvr U 0 N) (hq : q = lvr U (j - 1) (n + 1) / V) (hr : lvr U' (j - 1) (n + 1) = lvr U (j - 1) (n + 1) % V) (ho : ∀ k, k < j - 1 ∨ j - 1 + n < k → U'.getD k 0 = U.getD k 0) (hz : ∀ k, j + n ≤ k → U.getD k 0 = 0) :
    A = lvr (X.set (j - 1) q) 0 NX * V + lvr U' 0 N ∧ (∀ k, j - 1 + n ≤ k → U'.getD k 0 = 0) ∧ lvr U' (j - 1) n < V := by
  have hm0 := Int.emod_nonneg (lvr U (j - 1) (n + 1)) (Int.ne_of_gt hV)
  have hm1 := Int.emod_lt_of_pos (lvr U (j - 1) (n + 1)) hV
  have hd := Int.mul_ediv_add_emod (lvr U (j - 1) (n + 1)) V
  have ht := lvr_top0 hU' (o := j - 1) (n := n) (by rw [hr]; omega)
  have e1 := lvr_succ U' (j - 1) n
  rw [ht, hr] at e1
  have hmid := lvr_mid (U := U) (U' := U') (a := j - 1) (c := n + 1) (N := N) (by omega) (fun k hk => ho k (by omega))
  have hset := lvr_setm (X := X) (k := j - 1) (N := NX) (y := q) (by omega) (by omega)
  refine ⟨?_, ?_, ?_⟩
  · rw [hmid, hset, hinv, hX0, hr, Int.add_mul]
    have : 18446744073709551616 ^ (j - 1) * (q - 0) * V + 18446744073709551616 ^ (j - 1) * (lvr U (j - 1) (n + 1) % V - lvr U (j - 1) (n + 1)) = 0 := by
      rw [Int.mul_assoc, ← Int.mul_add, Int.sub_zero]
      have : q * V + (lvr U (j - 1) (n + 1) % V - lvr U (j - 1) (n + 1)) = 0 := by rw [hq, Int.mul_comm]; omega
      rw [this, Int.mul_zero]
    omega
  · intro k hk
    rcases Nat.lt_or_ge k (j + n) with h9 | h9
    · rw [show k = j - 1 + n by omega]; exact ht
    · rw [ho k (by omega), hz k h9]
  · have : lvr U' (j - 1) n = lvr U (j - 1) (n + 1) % V := by omega
    omega
theorem div_end {A Q V rem Yv S r : Int} (hS : 0 < S) (hA : A * S = Q * V + rem) (hV : V = Yv * S) (hrem : 0 ≤ rem ∧ rem < V) (hr : r = rem / S) : A = Q * Yv + r ∧ 0 ≤ r ∧ r < Yv := by
  have e : rem = S * (A - Q * Yv) := by
    rw [Int.mul_sub, Int.mul_comm S A, hA, hV, Int.mul_comm S, Int.mul_assoc]
    omega
  have e2 : r = A - Q * Yv := by rw [hr, e, Int.mul_ediv_cancel_left _ (Int.ne_of_gt hS)]
  refine ⟨by omega, by rw [hr]; exact Int.ediv_nonneg hrem.1 (Int.le_of_lt hS), ?_⟩
  rw [hr]
  refine Int.ediv_lt_of_lt_mul hS ?_
  rw [← hV]; exact hrem.2

theorem getD_rep (n k : Nat) : (List.replicate n (0 : Int)).getD k 0 = 0 := by
  rw [List.getD_eq_getElem?_getD, List.getElem?_replicate]
  split <;> rfl
theorem lvr_zeros {L : List Int} {o : Nat} : ∀ n, (∀ k, k < n → L.getD (o + k) 0 = 0) → lvr L o n = 0
  | 0, _ => rfl
  | n + 1, h => by rw [lvr_succ, lvr_zeros n (fun k hk => h k (by omega)), h n (by omega)]; simp
section
variable {P : Program} {ρ : Nat → Value} {w : World} {ops : Array Oper} {Q : Post} {os : List Oper} {x y : Operand} {ty t e : TypeId}
theorem WO_storeX {b o : Nat} {T : TypeId} {L : List Int} {z : Int} {pos : _} {af : _} (hS : ∀ w, (Go.sizeOf t).run P w = .ok 1 w) (hx : ev ρ x = .pointer (some ⟨b, o, none⟩)) (hy : ev ρ y = .int .u64 z)
    (hb : Hb w b (.cells (ic .u64 L) T (0, 0))) (ho : o < L.length) (hz : 0 ≤ z ∧ z ≤ 18446744073709551615)
    (h : ∀ w' L', UT b T L w w' L' → L' = L.set o z → WO P ops Q os ρ w') : WO P ops Q (⟨none, .store t x y, ty, pos, af, none⟩ :: os) ρ w :=
  WO_store1 hS hx hy hb.h rfl (by rw [size_ic]; exact ho) rfl (h _ _ (UT.set hb hz) rfl)
theorem WO_clearX {b n cp : Nat} {T dT : TypeId} {L : List Int} {dd : Option Nat} {pos : _} {af : _} (hU : ∀ w, (underlying dT).run P w = .ok (.slice e) w) (hz : ∀ w, (zeroValue e).run P w = .ok (.int .u64 0) w) (hx : ev ρ x = .slice (some ⟨b, 0, none⟩) n cp)
    (hb : Hb w b (.cells (ic .u64 L) T (0, 0))) (hk : n = L.length) (h0 : 0 < n)
    (h : ∀ w' L', UT b T L w w' L' → L' = List.replicate L.length 0 → WO P ops Q os (updo ρ dd (.tuple #[])) w') : WO P ops Q (⟨dd, .call ⟨.builtin .clear, #[x], #[dT]⟩, ty, pos, af, none⟩ :: os) ρ w :=
  WO_clear hU hz hx hb.h (by rw [size_ic]; omega) h0 (h _ _ (UT.splice (M := List.replicate n 0) hb (by simp; omega) (ULr n)) (by subst hk; simp))
theorem WH_copyX {S : World → Prop} {os' : List (Oper × Bool)} {tg : Bool} {b b2 n cp n2 cp2 : Nat} {T T2 dT sT : TypeId} {L L2 : List Int} {dd : Option Nat} {pos : _} {af : _} {fz : Nat × Nat} (hU : ∀ w, (underlying dT).run P w = .ok (.slice e) w) (hS : ∀ w, (Go.sizeOf e).run P w = .ok 1 w)
    (hx : ev ρ x = .slice (some ⟨b, 0, none⟩) n cp) (hy : ev ρ y = .slice (some ⟨b2, 0, none⟩) n2 cp2) (hb : Hb w b (.cells (ic .u64 L) T (0, 0))) (hb2 : Hb w b2 (.cells (ic .u64 L2) T2 fz)) (hn : n2 ≤ n) (h1 : n ≤ L.length) (h2 : L2.length = n2) (hL2 : UL L2)
    (h : ∀ w' L', UT b T L w w' L' → L' = L2 ++ L.drop n2 → (tg = true → S w') ∧ WH P ops S Q os' (updo ρ dd (Value.int .i64 n2)) w') : WH P ops S Q ((⟨dd, .call ⟨.builtin .copy, #[x, y], #[dT, sT]⟩, ty, pos, af, none⟩, tg) :: os') ρ w :=
  have hh := h _ _ (UT.splice (o := 0) (M := L2) hb (by omega) hL2) (by subst h2; simp)
  WH_copy n2 (sz := 1) hU hS hx hy hb.h hb2.h (Nat.min_eq_left hn) (by rw [size_ic]; omega) (by rw [size_ic]; omega) (Xt.whole (k := n2 * 1) rfl (by rw [size_ic]; omega)).h (by intro u hu; exact oneCell_ic u hu) hh.1 hh.2
end
theorem getD_app {A B : List Int} (k : Nat) : (A ++ B).getD k 0 = if k < A.length then A.getD k 0 else B.getD (k - A.length) 0 := by
  rw [List.getD_eq_getElem?_getD, List.getD_eq_getElem?_getD, List.getD_eq_getElem?_getD, List.getElem?_append]
  split <;> rfl
theorem getD_take {A : List Int} (n k : Nat) : (A.take n).getD k 0 = if k < n then A.getD k 0 else 0 := by
  rw [List.getD_eq_getElem?_getD, List.getD_eq_getElem?_getD, List.getElem?_take]
  split <;> rfl
theorem getD_out {A : List Int} {k : Nat} (h : A.length ≤ k) : A.getD k 0 = 0 := by
  rw [List.getD_eq_getElem?_getD, List.getElem?_eq_none h]; rfl
/-- X' and R are quotient and remainder -/
def DivP (X Y X' R : List Int) : Prop := (wv Y = 0 → lvr X' 0 8 = 0 ∧ wv R = 0) ∧ (wv Y ≠ 0 → lvr X 0 8 = lvr X' 0 8 * wv Y + wv R ∧ 0 ≤ wv R ∧ wv R < wv Y)
theorem divp_zero {X Y X' : List Int} (hY : Wd Y) (hz : ∀ k, 0 ≤ k → Y.getD k 0 = 0) (hX' : ∀ k, X'.getD k 0 = 0) : DivP X Y X' [0, 0, 0, 0] := by
  have h0 : wv Y = 0 := by rw [wv_lvr hY]; exact lvr_zeros 4 (fun k _ => hz _ (by omega))
  exact ⟨fun _ => ⟨lvr_zeros 8 (fun k _ => hX' _), rfl⟩, fun h => absurd h0 h⟩
theorem wd_ge {Y : List Int} (hY : Wd Y) {n : Nat} (hn : 0 < n) (hn4 : n ≤ 4) (hz : ∀ k, n ≤ k → Y.getD k 0 = 0) (hnz : Y.getD (n - 1) 0 ≠ 0) : wv Y = lvr Y 0 n ∧ 18446744073709551616 ^ (n - 1) ≤ wv Y := by
  have e1 := lvr_zero_from (L := Y) (o := 0) (a := n) (4 - n) (fun k h1 h2 => by rw [Nat.zero_add]; exact hz k h1)
  rw [show n + (4 - n) = 4 by omega] at e1
  have h2 := lvr_pow hY.2 (o := 0) (n := n) hn (by rw [Nat.zero_add]; exact hnz)
  rw [wv_lvr hY, e1]
  exact ⟨rfl, h2⟩
theorem divp_small {X Y X' : List Int} (hX : UL X) (hxl : X.length = 8) (hY : Wd Y) {n q : Nat} (hn : 0 < n) (hn4 : n ≤ 4) (hz : ∀ k, n ≤ k → Y.getD k 0 = 0) (hnz : Y.getD (n - 1) 0 ≠ 0) (hq : q < n) (hzx : ∀ k, q ≤ k → X.getD k 0 = 0) (hX' : ∀ k, X'.getD k 0 = 0) (hR : Wd (X.take 4)) : DivP X Y X' (X.take 4) := by
  obtain ⟨h1, h2⟩ := wd_ge hY hn hn4 hz hnz
  have hp := lpow_pos (n - 1)
  have e1 := lvr_zero_from (L := X) (o := 0) (a := q) (8 - q) (fun k h1 h2 => by rw [Nat.zero_add]; exact hzx k h1)
  rw [show q + (8 - q) = 8 by omega] at e1
  have e2 := lvr_zero_from (L := X) (o := 0) (a := q) (4 - q) (fun k h1 h2 => by rw [Nat.zero_add]; exact hzx k h1)
  rw [show q + (4 - q) = 4 by omega] at e2
  have e3 : lvr (X.take 4) 0 4 = lvr X 0 4 := lvr_congr 4 (fun k hk => by rw [Nat.zero_add, getD_take, if_pos hk])
  have hb := lvr_bd hX 0 q
  have hl : (18446744073709551616 : Int) ^ q ≤ 18446744073709551616 ^ (n - 1) := lpow_le (by omega)
  refine ⟨fun h => by omega, fun _ => ?_⟩
  rw [lvr_zeros (L := X') 8 (fun k _ => hX' _), wv_lvr hR, e3, e2, e1]
  omega
theorem divp_short {X Y X' R : List Int} (hY : Wd Y) {q : Nat} {r : Int} (hq : q ≤ 8) (hz : ∀ k, 1 ≤ k → Y.getD k 0 = 0) (hnz : Y.getD 0 0 ≠ 0) (hzx : ∀ k, q ≤ k → X.getD k 0 = 0) (hr : 0 ≤ r ∧ r < Y.getD 0 0) (h : lvr X 0 q = lvr X' 0 q * Y.getD 0 0 + r) (ho : ∀ k, q ≤ k → X'.getD k 0 = X.getD k 0) (hR : R = [r, 0, 0, 0]) : DivP X Y X' R := by
  subst hR
  obtain ⟨h1, h2⟩ := wd_ge hY (n := 1) (by decide) (by decide) hz hnz
  have e0 : lvr Y 0 1 = Y.getD 0 0 := by simp [lvr]
  have e1 := lvr_zero_from (L := X) (o := 0) (a := q) (8 - q) (fun k h1 h2 => by rw [Nat.zero_add]; exact hzx k h1)
  rw [show q + (8 - q) = 8 by omega] at e1
  have e2 := lvr_zero_from (L := X') (o := 0) (a := q) (8 - q) (fun k h1 h2 => by rw [Nat.zero_add, ho k h1]; exact hzx k h1)
  rw [show q + (8 - q) = 8 by omega] at e2
  have e3 : wv [r, 0, 0, 0] = r := by simp [wv]
  refine ⟨fun h => by omega, fun _ => ?_⟩
  rw [e1, e2, e3, h1, e0, h]
  omega
/-- the state of the long division: what is to be divided, the quotient's digits from j on, the rest -/
structure DivI (A V : Int) (n j N NX : Nat) (X U : List Int) : Prop where
  inv : A = lvr X 0 NX * V + lvr U 0 N
  xz : ∀ k, k < j → X.getD k 0 = 0
  uz : ∀ k, j + n ≤ k → U.getD k 0 = 0
  lt : lvr U j n < V
theorem DivI.round {A V : Int} {n j N NX : Nat} {X U U' : List Int} (h : DivI A V n j N NX X U) (hU' : UL U') (hj : 0 < j) (hjn : j + n ≤ N) (hjX : j ≤ NX) (hXl : NX ≤ X.length) (hV : 0 < V) (hVn : V ≤ 18446744073709551616 ^ n) {q : Int} (hq : q = lvr U (j - 1) (n + 1) / V) (hr : lvr U' (j - 1) (n + 1) = lvr U (j - 1) (n + 1) % V) (ho : ∀ k, k < j - 1 ∨ j - 1 + n < k → U'.getD k 0 = U.getD k 0) : DivI A V n (j - 1) N NX (X.set (j - 1) q) U' := by
  obtain ⟨h1, h2, h3⟩ := div_round hU' hj hjn hjX hXl hV hVn (h.xz _ (by omega)) h.inv hq hr ho h.uz
  exact ⟨h1, fun k hk => by rw [getD_setI, if_neg (by omega)]; exact h.xz k (by omega), h2, h3⟩
theorem divp_long {X Y X' U R : List Int} (hY : Wd Y) (hU : UL U) (hul : U.length = 9) {n ln : Nat} {V : Int} (hn : 0 < n) (hn4 : n ≤ 4) (hln : ln ≤ 64) (hz : ∀ k, n ≤ k → Y.getD k 0 = 0) (hnz : Y.getD (n - 1) 0 ≠ 0) (hV : V = wv Y * 2 ^ (64 - ln)) (h : DivI (lvr X 0 8 * 2 ^ (64 - ln)) V n 0 9 8 X' U) (hR : Wd R) (hr : lvr R 0 4 = lvr (U.take 4) 0 4 / 2 ^ (64 - ln)) : DivP X Y X' R := by
  obtain ⟨h1, h2⟩ := wd_ge hY hn hn4 hz hnz
  have hp := lpow_pos (n - 1)
  have e1 := lvr_zero_from (L := U) (o := 0) (a := n) (9 - n) (fun k h1 h2 => by rw [Nat.zero_add]; exact h.uz k (by omega))
  rw [show n + (9 - n) = 9 by omega] at e1
  have e2 := lvr_zero_from (L := U) (o := 0) (a := n) (4 - n) (fun k h1 h2 => by rw [Nat.zero_add]; exact h.uz k (by omega))
  rw [show n + (4 - n) = 4 by omega] at e2
  have e3 : lvr (U.take 4) 0 4 = lvr U 0 4 := lvr_congr 4 (fun k hk => by rw [Nat.zero_add, getD_take, if_pos hk])
  have hb := lvr_bd hU 0 n
  have he := div_end (pow2_pos (64 - ln)) (h.inv) hV ⟨by rw [e1]; exact hb.1, by rw [e1]; exact h.lt⟩ (r := wv R) (by rw [wv_lvr hR, hr, e3, e2, e1])
  exact ⟨fun h => by omega, fun _ => he⟩

set_option maxRecDepth 10000 in
theorem divMid_ex (bu bvY n j : Nat) (Tu Tv : TypeId) (U Y : List Int) (w : World) (hU : Hb w bu (.cells (ic .u64 U) Tu (0, 0))) (hV : Hb w bvY (.cells (ic .u64 Y) Tv (0, 0))) (hul : U.length = 9) (hUL : UL U) (hY : Wd Y) (hn : n ≤ 255) (hj : j ≤ 255) (hn2 : 2 ≤ n) (hn4 : n ≤ 4) (hjn : j + n ≤ 8) (hYz : ∀ k, n ≤ k → Y.getD k 0 = 0) (htop : 9223372036854775808 ≤ Y.getD (n - 1) 0) (hzero : ∀ k, j + n < k → U.getD k 0 = 0) (hlt : lvr U (j + 1) n < lvr Y 0 n) : Ret Hvac.prog 385 #[.pointer (some ⟨bu, 0, none⟩), .pointer (some ⟨bvY, 0, none⟩), .int .u8 n, .int .u8 j] w fun u w' => Ext w w' ∧ u = .bool true := by
  have hyl := hY.1
  refine Ret_of_W Hvac.func385 rfl rfl ?_
  refine W_seq ?_
  refine W_region rfl ?_
  refine WO_p (PS_assign_bool rfl) ?_
  refine WO_nil ?_
  refine thn_normal ?_
  refine W_seq ?_
  refine W_seq ?_
  refine W_region rfl ?_
  refine WO_p (PS_move_ptr rfl) ?_
  refine WO_p (PS_eqlnil Hvac.underlying425 rfl) ?_
  refine WO_p (PS_move_bool rfl) ?_
  refine WO_if (t := 11) rfl (fun hb2 => ?_) (fun hb2 => ?_)
  · have hb2p := hb2.h; try simp only [al_ete, al_dfn, Bool.not_eq_true', Bool.not_eq_false', al_ne, Bool.not_not, al_nn] at hb2p
    first | (exfalso; omega) | (exfalso; exact hb2p rfl) | (exfalso; simp at hb2p) --END
  · have hb2p := hb2.h; try simp only [al_ete, al_dfn, Bool.not_eq_true', Bool.not_eq_false', al_ne, Bool.not_not, al_nn] at hb2p
    refine WO_guardT rfl rfl hb2.h ?_
    refine WO_p (PS_move_ptr rfl) ?_
    refine WO_guardT rfl rfl hb2.h ?_
    refine WO_p (PS_eqlnil Hvac.underlying355 rfl) ?_
    refine WO_p (PS_pickF rfl hb2.h rfl) ?_
    refine WO_p (PS_move_bool rfl) ?_
    refine WO_if (t := 15) rfl (fun hb4 => ?_) (fun hb4 => ?_)
    · have hb4p := hb4.h; try simp only [al_ete, al_dfn, Bool.not_eq_true', Bool.not_eq_false', al_ne, Bool.not_not, al_nn] at hb4p
      first | (exfalso; omega) | (exfalso; exact hb4p rfl) | (exfalso; simp at hb4p) --END
    · have hb4p := hb4.h; try simp only [al_ete, al_dfn, Bool.not_eq_true', Bool.not_eq_false', al_ne, Bool.not_not, al_nn] at hb4p
      refine WO_guardT rfl rfl hb4.h ?_
      refine WO_p (PS_move_int rfl) ?_
      refine WO_guardT rfl rfl hb4.h ?_
      refine WO_p (PS_lss rfl rfl) ?_
      refine WO_p (PS_pickF rfl hb4.h rfl) ?_
      refine WO_p (PS_move_bool rfl) ?_
      refine WO_if (t := 19) rfl (fun hb6 => ?_) (fun hb6 => ?_)
      · have hb6p := hb6.h; try simp only [al_ete, al_dfn, Bool.not_eq_true', Bool.not_eq_false', al_ne, Bool.not_not, al_nn] at hb6p
        first | (exfalso; omega) | (exfalso; exact hb6p rfl) | (exfalso; simp at hb6p) --END
      · have hb6p := hb6.h; try simp only [al_ete, al_dfn, Bool.not_eq_true', Bool.not_eq_false', al_ne, Bool.not_not, al_nn] at hb6p
        refine WO_guardT rfl rfl hb6.h ?_
        refine WO_p (PS_move_int rfl) ?_
        refine WO_guardT rfl rfl hb6.h ?_
        refine WO_p (PS_gtr rfl rfl) ?_
        refine WO_p (PS_pickF rfl hb6.h rfl) ?_
        refine WO_p (PS_move_bool rfl) ?_
        refine WO_if (t := 23) rfl (fun hb8 => ?_) (fun hb8 => ?_)
        · have hb8p := hb8.h; try simp only [al_ete, al_dfn, Bool.not_eq_true', Bool.not_eq_false', al_ne, Bool.not_not, al_nn] at hb8p
          first | (exfalso; omega) | (exfalso; exact hb8p rfl) | (exfalso; simp at hb8p) --END
        · have hb8p := hb8.h; try simp only [al_ete, al_dfn, Bool.not_eq_true', Bool.not_eq_false', al_ne, Bool.not_not, al_nn] at hb8p
          refine WO_guardT rfl rfl hb8.h ?_
          refine WO_p (PS_move_int rfl) ?_
          refine WO_guardT rfl rfl hb8.h ?_
          refine WO_p (PS_move_int rfl) ?_
          refine WO_guardT rfl rfl hb8.h ?_
          refine WO_p (PS_sub_u8n rfl rfl (by omega) (by omega)) ?_
          refine WO_guardT rfl rfl hb8.h ?_
          refine WO_p (PS_gtr rfl rfl) ?_
          refine WO_p (PS_pickF rfl hb8.h rfl) ?_
          refine WO_p (PS_move_bool rfl) ?_
          refine WO_if (t := 29) rfl (fun hb10 => ?_) (fun hb10 => ?_)
          · have hb10p := hb10.h; try simp only [al_ete, al_dfn, Bool.not_eq_true', Bool.not_eq_false', al_ne, Bool.not_not, al_nn] at hb10p
            first | (exfalso; omega) | (exfalso; exact hb10p rfl) | (exfalso; simp at hb10p) --END
          · have hb10p := hb10.h; try simp only [al_ete, al_dfn, Bool.not_eq_true', Bool.not_eq_false', al_ne, Bool.not_not, al_nn] at hb10p
            refine WO_guardT rfl rfl hb10.h ?_
            refine WO_p (PS_move_ptr rfl) ?_
            refine WO_guardT rfl rfl hb10.h ?_
            refine WO_p (PS_nilCheck rfl) ?_
            refine WO_guardT rfl rfl hb10.h ?_
            refine WO_loadA _ Hvac.isAgg61 Hvac.sizeOf61 rfl (Hb.h (by repeat (first | assumption | exact Hb.newY _ _ | refine Hb.alloc ?_ | refine Hb.drew ?_ | refine Hb.ext (by assumption) ?_ | exact Hb.setSameL (by first | omega | (simp only [size_alloc, size_setB, size_drew]; omega)) | exact Hb.setSame (by assumption) | refine Hb.set (by first | omega | (simp only [size_alloc, size_setB, size_drew]; omega)) ?_ ))) (by first | omega | assumption | rfl | decide | exact Nat.le_refl _ | (simp only [size_ic, Value.cells]; omega) | (simp; omega) | simp) (Xt.h (by first | assumption | exact Xt.whole rfl rfl | exact Xt.whole rfl (by assumption) | exact Xt.whole rfl (by simp only [size_ic, Value.cells]; omega) | exact ⟨rfl⟩)) ?_
            refine WO_guardT rfl rfl hb10.h ?_
            refine WO_call Hvac.call228 (by rfl) (Ret.mono (limbs_ex Y _ hY) ?_)
            rintro _ w1 ⟨hE1, k, rfl, hk, hkz, hkzz⟩
            have hU1 := Hb.ext hE1 hU
            have hV1 := Hb.ext hE1 hV
            have hkn : k = n := by
              rcases Nat.lt_or_ge k n with h9 | h9
              · exfalso; have := hkzz (n - 1) (by omega); omega
              · rcases Nat.lt_or_ge n k with h8 | h8
                · exfalso; exact hkz (by omega) (hYz (k - 1) (by omega))
                · omega
            subst hkn
            refine WO_guardT rfl rfl hb10.h ?_
            refine WO_p (PS_move_int rfl) ?_
            refine WO_guardT rfl rfl hb10.h ?_
            refine WO_p (PS_neq rfl rfl) ?_
            refine WO_p (PS_pickF rfl hb10.h rfl) ?_
            refine WO_nil ?_
            refine thn_normal ?_
            refine W_if rfl (fun hb13 => ?_) (fun hb13 => ?_)
            · have hb13p := hb13.h; try simp only [al_ete, al_dfn, Bool.not_eq_true', Bool.not_eq_false', al_ne, Bool.not_not, al_nn] at hb13p
              first | (exfalso; omega) | (exfalso; exact hb13p rfl) | (exfalso; simp at hb13p) --END
            · have hb13p := hb13.h; try simp only [al_ete, al_dfn, Bool.not_eq_true', Bool.not_eq_false', al_ne, Bool.not_not, al_nn] at hb13p
              refine W_skip ?_
              refine thn_normal ?_
              refine W_seq ?_
              refine W_drawE [false, false, false, false, false, false, false, false, false, false] hmix (by kernel_rfl) rfl ?_
              refine WH_p (PS_move_ptr rfl) rfl ?_
              refine WH_p (PS_nilCheck rfl) rfl ?_
              refine WH_p (PS_slA Hvac.runUnderlying423 Hvac.sizeOf26 rfl (by omega)) rfl ?_
              refine WH_p (PS_move_ptr rfl) rfl ?_
              refine WH_p (PS_nilCheck rfl) rfl ?_
              refine WH_p (PS_slA Hvac.runUnderlying61 Hvac.sizeOf26 rfl (by omega)) rfl ?_
              refine WH_p (PS_move_int rfl) rfl ?_
              refine WH_p (PS_move_int rfl) rfl ?_
              refine WH_call Hvac.call381 (by rfl) (Ret.mono (midHolds_ex bu bvY 9 4 9 4 _ j Tu Tv U Y _ (Hb.mk (Hb.h (by repeat (first | assumption | exact Hb.newY _ _ | refine Hb.alloc ?_ | refine Hb.drew ?_ | refine Hb.ext (by assumption) ?_ | exact Hb.setSameL (by first | omega | (simp only [size_alloc, size_setB, size_drew]; omega)) | exact Hb.setSame (by assumption) | refine Hb.set (by first | omega | (simp only [size_alloc, size_setB, size_drew]; omega)) ?_ )))) (Hb.mk (Hb.h (by repeat (first | assumption | exact Hb.newY _ _ | refine Hb.alloc ?_ | refine Hb.drew ?_ | refine Hb.ext (by assumption) ?_ | exact Hb.setSameL (by first | omega | (simp only [size_alloc, size_setB, size_drew]; omega)) | exact Hb.setSame (by assumption) | refine Hb.set (by first | omega | (simp only [size_alloc, size_setB, size_drew]; omega)) ?_ )))) hul hyl (by omega) (by omega) (by omega) (by decide) hUL hY.2 htop hzero hlt) ?_)
              rintro _ w2 ⟨hE2, rfl⟩
              refine ⟨(fun h => by cases h), ?_⟩
              refine WH_p (PS_assign_bool rfl) rfl ?_
              refine WH_nil ?_
              refine thn_normal ?_
              refine W_ret ?_
              refine bodyQ_ret1 Hvac.results385 rfl (.bool _) rfl ?_
              exact ⟨(by repeat (first | assumption | exact Ext.refl _ | refine Ext.alloc ?_ _ | refine Ext.drew ?_ | refine Ext.setB ?_ (by first | omega | (simp only [size_alloc, size_setB, size_drew]; omega)) _ | refine Ext.trans ?_ (by assumption))), rfl⟩

set_option maxRecDepth 10000 in
theorem roundU_ex (bu bvY n j : Nat) (Tu Tv : TypeId) (U Y : List Int) (w : World) (hU : Hb w bu (.cells (ic .u64 U) Tu (0, 0))) (hV : Hb w bvY (.cells (ic .u64 Y) Tv (0, 0))) (hne : bu ≠ bvY) (hul : U.length = 9) (hUL : UL U) (hY : Wd Y) (hn : n ≤ 255) (hj : j ≤ 255) (hn2 : 2 ≤ n) (hn4 : n ≤ 4) (hjn : j + n ≤ 8) (hYz : ∀ k, n ≤ k → Y.getD k 0 = 0) (htop : 9223372036854775808 ≤ Y.getD (n - 1) 0) (hzero : ∀ k, j + n < k → U.getD k 0 = 0) (hlt : lvr U (j + 1) n < lvr Y 0 n) : Ret Hvac.prog 379 #[.pointer (some ⟨bu, 0, none⟩), .pointer (some ⟨bvY, 0, none⟩), .int .u8 n, .int .u8 j] w fun u w' => ∃ (q f : Int) (z : Bool), u = .tuple #[.int .u64 q, .int .u8 f, .bool z] ∧ (0 ≤ q ∧ q ≤ 18446744073709551615) ∧ (0 ≤ f ∧ f ≤ 255) ∧ TurnX bu Tu U w w' fun L' => (q = lvr U j (n + 1) / lvr Y 0 n ∧ lvr L' j (n + 1) = lvr U j (n + 1) % lvr Y 0 n) ∧ (∀ k, k < j ∨ j + n < k → L'.getD k 0 = U.getD k 0) := by
  have hYl := hY.1
  refine Ret_of_W Hvac.func379 rfl rfl ?_
  refine W_seq ?_
  refine W_region rfl ?_
  refine WO_p (PS_assign_int rfl) ?_
  refine WO_p (PS_assign_int rfl) ?_
  refine WO_p (PS_assign_bool rfl) ?_
  refine WO_nil ?_
  refine thn_normal ?_
  refine W_seq ?_
  refine W_seq ?_
  refine W_region rfl ?_
  refine WO_p (PS_move_ptr rfl) ?_
  refine WO_p (PS_move_ptr rfl) ?_
  refine WO_p (PS_move_int rfl) ?_
  refine WO_p (PS_move_int rfl) ?_
  refine WO_call Hvac.call385 (by rfl) (Ret.mono (divMid_ex bu bvY n j Tu Tv U Y _ hU hV hul hUL hY hn hj hn2 hn4 hjn hYz htop hzero hlt) ?_)
  rintro _ w1 ⟨hE1, rfl⟩
  have hzz1 := hE1.1
  have hU1 := Hb.ext hE1 hU
  have hV1 := Hb.ext hE1 hV
  refine WO_p (PS_not rfl) ?_
  refine WO_nil ?_
  refine thn_normal ?_
  refine W_if rfl (fun hb4 => ?_) (fun hb4 => ?_)
  · have hb4p := hb4.h; try simp only [al_ete, al_dfn, Bool.not_eq_true', Bool.not_eq_false', al_ne, Bool.not_not, al_nn] at hb4p
    simp at hb4p --END
  · have hb4p := hb4.h; try simp only [al_ete, al_dfn, Bool.not_eq_true', Bool.not_eq_false', al_ne, Bool.not_not, al_nn] at hb4p
    refine W_skip ?_
    refine thn_normal ?_
    refine W_seq ?_
    refine W_drawE [false, false, false, false, false, false, false, false, false, false, false, false, false, false, false, false, false, false, false, false, false, false, false, false] hmix (by kernel_rfl) rfl ?_
    refine WH_p (PS_move_ptr rfl) rfl ?_
    refine WH_p (PS_nilCheck rfl) rfl ?_
    refine WH_p (PS_move_int rfl) rfl ?_
    refine WH_p (PS_move_int rfl) rfl ?_
    refine WH_p (PS_move_int rfl) rfl ?_
    refine WH_p (PS_add_u8n rfl rfl (by omega) (by omega)) rfl ?_
    refine WH_p (PS_add_u8n rfl rfl (by omega) (by omega)) rfl ?_
    refine WH_p (PS_move_int rfl) rfl ?_
    refine WH_p (PS_move_int rfl) rfl ?_
    refine WH_p (PS_add_u8n rfl rfl (by omega) (by omega)) rfl ?_
    refine WH_p (PS_add_u8n rfl rfl (by omega) (by omega)) rfl ?_
    refine WH_p (PS_slA_lhm Hvac.runUnderlying423 Hvac.sizeOf26 rfl rfl rfl rfl (by omega) (by omega) (by omega) (by omega) (by omega) (by omega) (by omega)) rfl ?_
    rw [show ((j : Int) + n + 1).toNat - (j : Int).toNat = n + 1 by omega, show (j : Int).toNat = j by omega]
    refine WH_p (PS_move_ptr rfl) rfl ?_
    refine WH_p (PS_nilCheck rfl) rfl ?_
    refine WH_p (PS_move_int rfl) rfl ?_
    refine WH_p (PS_move_int rfl) rfl ?_
    refine WH_p (PS_slA_hm Hvac.runUnderlying61 Hvac.sizeOf26 rfl rfl rfl (by omega) (by omega) (by omega) (by omega) (by omega)) rfl ?_
    rw [show (n : Int).toNat = n by omega]
    refine WH_call Hvac.call377 (by rfl) (Ret.mono (roundD_ex bu bvY n _ _ (0 + j * 1) 0 Tu Tv U Y _ (Hb.drew hU1) (Hb.drew hV1) hne hUL hY.2 (by omega) (by omega) hn2 (by omega) (by rw [show 0 + (n - 1) = n - 1 by omega]; omega) (by rw [show 0 + j * 1 + 1 = j + 1 by omega]; exact hlt)) ?_)
    rintro _ w2 ⟨q2, f2, z2, rfl, hq2, hf2, L2, k1, k2, k3, k4, k5, k6⟩
    refine ⟨(fun h => by cases h), ?_⟩
    rw [show 0 + j * 1 = j by omega] at k5 k6
    refine WH_p (PS_extract_int rfl rfl) rfl ?_
    refine WH_p (PS_extract_int rfl rfl) rfl ?_
    refine WH_p (PS_extract_bool rfl rfl) rfl ?_
    refine WH_p (PS_assign_int rfl) rfl ?_
    refine WH_p (PS_assign_int rfl) rfl ?_
    refine WH_p (PS_assign_bool rfl) rfl ?_
    refine WH_nil ?_
    refine thn_normal ?_
    refine W_ret ?_
    refine bodyQ_ret3 Hvac.results379 rfl rfl rfl (.int _ _) (.int _ _) (.bool _) rfl rfl rfl ?_
    exact ⟨q2, f2, z2, rfl, hq2, hf2, L2, k1, k2, k3, ((Ext.drew hE1).keepO _).trans k4 (fun _ _ e => e), k5, k6⟩

set_option maxRecDepth 10000 in
set_option maxHeartbeats 4000000 in
theorem divide_ex (bx : Nat) (T : TypeId) (X Y : List Int) (w : World) (hX : Hb w bx (.cells (ic .u64 X) T (0, 0))) (hxl : X.length = 8) (hXL : UL X) (hY : Wd Y) : Ret Hvac.prog 371 #[.pointer (some ⟨bx, 0, none⟩), .agg (ic .u64 Y)] w fun u w' => ∃ R p X', u = .tuple #[.agg (ic .u64 R), .agg (ic .u8 p)] ∧ Wd R ∧ p.length = 3 ∧ (X'.length = X.length ∧ UL X' ∧ Hb w' bx (.cells (ic .u64 X') T (0, 0)) ∧ KeepO (fun x => x = bx) w w') ∧ DivP X Y X' R := by
  have hYl := hY.1
  have hYg := fun i => wd_get hY i
  have hbxl := hX.lt
  have hx4 : (X.take 4).length = 4 := by simp [hxl]
  have hxW : Wd (X.take 4) := ⟨hx4, fun z hz => hXL z (List.mem_of_mem_take hz)⟩
  have hxt4 : Xt (ic .u64 X) 0 (0 + 4) (ic .u64 (X.take 4)) := by have h := Xt.ic .u64 X 0 4 (by omega); rwa [List.drop_zero] at h
  have hr9 : (List.replicate 9 (0 : Int)).length = 9 := by simp
  refine Ret_of_W Hvac.func371 rfl rfl ?_
  refine W_seq ?_
  refine W_region rfl ?_
  refine WO_boxG (.agg _) rfl ?_
  intro b3 v3 hg3 hE3 hH3 hl3
  try simp only [size_alloc, size_setB, size_drew] at hg3
  have hzz3 := hE3.1
  try simp only [size_alloc, size_setB, size_drew] at hzz3
  refine WO_allocG Hvac.zeroValue61 ?_
  intro b4 v4 hg4 hE4 hH4 hl4
  try simp only [size_alloc, size_setB, size_drew] at hg4
  have hzz4 := hE4.1
  try simp only [size_alloc, size_setB, size_drew] at hzz4
  replace hH4 : Hb v4 b4 (.cells (ic .u64 [0, 0, 0, 0]) 61 (0, 0)) := hH4
  refine WO_allocG Hvac.zeroValue369 ?_
  intro b5 v5 hg5 hE5 hH5 hl5
  try simp only [size_alloc, size_setB, size_drew] at hg5
  have hzz5 := hE5.1
  try simp only [size_alloc, size_setB, size_drew] at hzz5
  replace hH5 : Hb v5 b5 (.cells (ic .u8 [0, 0, 0]) 369 (0, 0)) := hH5
  refine WO_nil ?_
  refine thn_normal ?_
  refine W_seq ?_
  refine W_region rfl ?_
  refine WO_loadA _ Hvac.isAgg61 Hvac.sizeOf61 rfl (Hb.h (by repeat (first | assumption | exact Hb.newY _ _ | refine Hb.alloc ?_ | refine Hb.drew ?_ | refine Hb.ext (by assumption) ?_ | exact Hb.setSameL (by first | omega | (simp only [size_alloc, size_setB, size_drew]; omega)) | exact Hb.setSame (by assumption) | refine Hb.set (by first | omega | (simp only [size_alloc, size_setB, size_drew]; omega)) ?_ ))) (by first | omega | assumption | rfl | decide | exact Nat.le_refl _ | (simp only [size_ic, Value.cells]; omega) | (simp; omega) | simp) (Xt.h (by first | assumption | exact Xt.whole rfl rfl | exact Xt.whole rfl (by assumption) | exact Xt.whole rfl (by simp only [size_ic, Value.cells]; omega) | exact ⟨rfl⟩)) ?_
  refine WO_call Hvac.call228 (by rfl) (Ret.mono (limbs_ex _ _ hY) ?_)
  rintro _ w1 ⟨hE1, n, rfl, hn4, hnz, hzz⟩
  have hz1 := hE1.1
  try simp only [size_alloc, size_setB, size_drew] at hz1
  have hb31 := Hb.ext hE1 (Hb.ext hE5 (Hb.ext hE4 hH3))
  have hb41 := Hb.ext hE1 (Hb.ext hE5 hH4)
  have hb51 := Hb.ext hE1 hH5
  have hX1 : Hb w1 bx (.cells (ic .u64 X) T (0, 0)) := Hb.mk (Hb.h (by repeat (first | assumption | exact Hb.newY _ _ | refine Hb.alloc ?_ | refine Hb.drew ?_ | refine Hb.ext (by assumption) ?_ | exact Hb.setSameL (by first | omega | (simp only [size_alloc, size_setB, size_drew]; omega)) | exact Hb.setSame (by assumption) | refine Hb.set (by first | omega | (simp only [size_alloc, size_setB, size_drew]; omega)) ?_ )))
  have hEw1 : Ext w w1 := (by repeat (first | assumption | exact Ext.refl _ | refine Ext.alloc ?_ _ | refine Ext.drew ?_ | refine Ext.setB ?_ (by first | omega | (simp only [size_alloc, size_setB, size_drew]; omega)) _ | exact Ext.trans (by assumption) (by assumption) | refine Ext.trans ?_ (by assumption)))
  have hk1 : KeepO (fun x => x = bx) w w1 := hEw1.keepO _
  refine WO_p (PS_assign_int rfl) ?_
  refine WO_nil ?_
  refine thn_normal ?_
  refine W_seq ?_
  refine W_seq ?_
  refine W_region rfl ?_
  refine WO_p (PS_move_int rfl) ?_
  refine WO_p (PS_eql rfl rfl) ?_
  refine WO_nil ?_
  refine thn_normal ?_
  refine W_if rfl (fun hb3 => ?_) (fun hb3 => ?_)
  · have hb3p := hb3.h; try simp only [al_ete, al_dfn, Bool.not_eq_true', Bool.not_eq_false', al_ne, Bool.not_not, al_nn] at hb3p
    have hn0 : n = 0 := by omega
    refine W_seq ?_
    refine W_region rfl ?_
    refine WO_p (PS_move_ptr rfl) ?_
    refine WO_p (PS_nilCheck rfl) ?_
    refine WO_p (PS_slA Hvac.runUnderlying63 Hvac.sizeOf26 rfl (by omega)) ?_
    refine WO_clearX (b := bx) (T := T) (L := X) Hvac.runUnderlying280 Hvac.zeroValue26 rfl (Hb.mk (Hb.h (by repeat (first | assumption | exact Hb.newY _ _ | refine Hb.alloc ?_ | refine Hb.drew ?_ | refine Hb.ext (by assumption) ?_ | exact Hb.setSameL (by first | omega | (simp only [size_alloc, size_setB, size_drew]; omega)) | exact Hb.setSame (by assumption) | refine Hb.set (by first | omega | (simp only [size_alloc, size_setB, size_drew]; omega)) ?_ )))) (by omega) (by omega) ?_
    intro w3 X3 hU3 hXe3
    have hXz3 : ∀ k, X3.getD k 0 = 0 := fun k => by rw [hXe3]; exact getD_rep _ _
    have hz3 := hU3.keep.sz
    try simp only [size_alloc, size_setB, size_drew] at hz3
    have hb43 := hU3.other (Hb.mk (Hb.h (by repeat (first | assumption | exact Hb.newY _ _ | refine Hb.alloc ?_ | refine Hb.drew ?_ | refine Hb.ext (by assumption) ?_ | exact Hb.setSameL (by first | omega | (simp only [size_alloc, size_setB, size_drew]; omega)) | exact Hb.setSame (by assumption) | refine Hb.set (by first | omega | (simp only [size_alloc, size_setB, size_drew]; omega)) ?_ ))) : Hb _ b4 (.cells (ic .u64 [0, 0, 0, 0]) 61 (0, 0))) (by omega)
    have hb53 := hU3.other (Hb.mk (Hb.h (by repeat (first | assumption | exact Hb.newY _ _ | refine Hb.alloc ?_ | refine Hb.drew ?_ | refine Hb.ext (by assumption) ?_ | exact Hb.setSameL (by first | omega | (simp only [size_alloc, size_setB, size_drew]; omega)) | exact Hb.setSame (by assumption) | refine Hb.set (by first | omega | (simp only [size_alloc, size_setB, size_drew]; omega)) ?_ ))) : Hb _ b5 (.cells (ic .u8 [0, 0, 0]) 369 (0, 0))) (by omega)
    have hk3 : KeepO (fun x => x = bx) w w3 := KeepO.ut hk1 hU3 (Or.inr rfl)
    have hXb3 := hU3.hb
    refine WO_nil ?_
    refine thn_normal ?_
    refine W_seq ?_
    have hDP : DivP X Y X3 [0, 0, 0, 0] := divp_zero hY (fun k _ => hzz k (by omega)) hXz3
    refine W_drawT2 [false, false, true, false] (RetS b4 b5 [0, 0, 0, 0] [0, 0, 0]) hmix (by kernel_rfl) rfl ⟨Hb.mk (Hb.h (by repeat (first | assumption | exact Hb.newY _ _ | refine Hb.alloc ?_ | refine Hb.drew ?_ | refine Hb.ext (by assumption) ?_ | exact Hb.setSameL (by first | omega | (simp only [size_alloc, size_setB, size_drew]; omega)) | exact Hb.setSame (by assumption) | refine Hb.set (by first | omega | (simp only [size_alloc, size_setB, size_drew]; omega)) ?_ ))), Hb.mk (Hb.h (by repeat (first | assumption | exact Hb.newY _ _ | refine Hb.alloc ?_ | refine Hb.drew ?_ | refine Hb.ext (by assumption) ?_ | exact Hb.setSameL (by first | omega | (simp only [size_alloc, size_setB, size_drew]; omega)) | exact Hb.setSame (by assumption) | refine Hb.set (by first | omega | (simp only [size_alloc, size_setB, size_drew]; omega)) ?_ )))⟩ ?_
    intro hSt
    have hSt4 := hSt.h4
    have hSt5 := hSt.h5
    have hSt5l := hSt5.lt
    have hSt4l := hSt4.lt
    try simp only [size_drew] at hSt5l hSt4l
    refine WH_loadA0 (ic .u64 [0, 0, 0, 0]) Hvac.isAgg61 Hvac.sizeOf61 rfl (fun w' hS => row_at hS.h4 (by first | omega | assumption | rfl | decide | exact Nat.le_refl _ | (simp only [size_ic, Value.cells]; omega) | (simp; omega) | simp)) ?_
    refine WH_loadA0 (ic .u8 [0, 0, 0]) Hvac.isAgg369 Hvac.sizeOf369 rfl (fun w' hS => row_at hS.h5 (by first | omega | assumption | rfl | decide | exact Nat.le_refl _ | (simp only [size_ic, Value.cells]; omega) | (simp; omega) | simp)) ?_
    first | refine WH_storeW Hvac.sizeOf61 rfl (v := .agg _) rfl (Hb.h (by repeat (first | assumption | exact Hb.newY _ _ | refine Hb.alloc ?_ | refine Hb.drew ?_ | refine Hb.ext (by assumption) ?_ | exact Hb.setSameL (by first | omega | (simp only [size_alloc, size_setB, size_drew]; omega)) | exact Hb.setSame (by assumption) | refine Hb.set (by first | omega | (simp only [size_alloc, size_setB, size_drew]; omega)) ?_ ))) rfl (by first | rfl | (simp only [size_ic, Value.cells]; omega)) (by first | rfl | (simp only [size_ic]; omega)) oneCell_ic (fun _ => ⟨Hb.setSame hSt4, Hb.set (by omega) hSt5⟩) ?_ | refine WH_storeW Hvac.sizeOf369 rfl (v := .agg _) rfl (Hb.h (by repeat (first | assumption | exact Hb.newY _ _ | refine Hb.alloc ?_ | refine Hb.drew ?_ | refine Hb.ext (by assumption) ?_ | exact Hb.setSameL (by first | omega | (simp only [size_alloc, size_setB, size_drew]; omega)) | exact Hb.setSame (by assumption) | refine Hb.set (by first | omega | (simp only [size_alloc, size_setB, size_drew]; omega)) ?_ ))) rfl (by first | rfl | (simp only [size_ic, Value.cells]; omega)) (by first | rfl | (simp only [size_ic]; omega)) oneCell_ic (fun h => by cases h) ?_
    first | refine WH_storeW Hvac.sizeOf61 rfl (v := .agg _) rfl (Hb.h (by repeat (first | assumption | exact Hb.newY _ _ | refine Hb.alloc ?_ | refine Hb.drew ?_ | refine Hb.ext (by assumption) ?_ | exact Hb.setSameL (by first | omega | (simp only [size_alloc, size_setB, size_drew]; omega)) | exact Hb.setSame (by assumption) | refine Hb.set (by first | omega | (simp only [size_alloc, size_setB, size_drew]; omega)) ?_ ))) rfl (by first | rfl | (simp only [size_ic, Value.cells]; omega)) (by first | rfl | (simp only [size_ic]; omega)) oneCell_ic (fun _ => ⟨Hb.setSame hSt4, Hb.set (by omega) hSt5⟩) ?_ | refine WH_storeW Hvac.sizeOf369 rfl (v := .agg _) rfl (Hb.h (by repeat (first | assumption | exact Hb.newY _ _ | refine Hb.alloc ?_ | refine Hb.drew ?_ | refine Hb.ext (by assumption) ?_ | exact Hb.setSameL (by first | omega | (simp only [size_alloc, size_setB, size_drew]; omega)) | exact Hb.setSame (by assumption) | refine Hb.set (by first | omega | (simp only [size_alloc, size_setB, size_drew]; omega)) ?_ ))) rfl (by first | rfl | (simp only [size_ic, Value.cells]; omega)) (by first | rfl | (simp only [size_ic]; omega)) oneCell_ic (fun h => by cases h) ?_
    refine WH_nil ?_
    refine thn_normal ?_
    refine W_ret ?_
    refine thn_ret ?_
    refine bodyQ_cell2 Hvac.results371 rfl rfl Hvac.isAgg61 Hvac.sizeOf61 Hvac.isAgg369 Hvac.sizeOf369 rfl (Hb.h (by repeat (first | assumption | exact Hb.newY _ _ | refine Hb.alloc ?_ | refine Hb.drew ?_ | refine Hb.ext (by assumption) ?_ | exact Hb.setSameL (by first | omega | (simp only [size_alloc, size_setB, size_drew]; omega)) | exact Hb.setSame (by assumption) | refine Hb.set (by first | omega | (simp only [size_alloc, size_setB, size_drew]; omega)) ?_ ))) (by first | omega | assumption | rfl | decide | exact Nat.le_refl _ | (simp only [size_ic, Value.cells]; omega) | (simp; omega) | simp) rfl (Hb.h (by repeat (first | assumption | exact Hb.newY _ _ | refine Hb.alloc ?_ | refine Hb.drew ?_ | refine Hb.ext (by assumption) ?_ | exact Hb.setSameL (by first | omega | (simp only [size_alloc, size_setB, size_drew]; omega)) | exact Hb.setSame (by assumption) | refine Hb.set (by first | omega | (simp only [size_alloc, size_setB, size_drew]; omega)) ?_ ))) (by first | omega | assumption | rfl | decide | exact Nat.le_refl _ | (simp only [size_ic, Value.cells]; omega) | (simp; omega) | simp) ?_
    exact ⟨_, _, X3, rfl, Wd0, rfl, ⟨hU3.len, hU3.ty hXL, Hb.mk (Hb.h (by repeat (first | assumption | exact Hb.newY _ _ | refine Hb.alloc ?_ | refine Hb.drew ?_ | refine Hb.ext (by assumption) ?_ | exact Hb.setSameL (by first | omega | (simp only [size_alloc, size_setB, size_drew]; omega)) | exact Hb.setSame (by assumption) | refine Hb.set (by first | omega | (simp only [size_alloc, size_setB, size_drew]; omega)) ?_ ))), ((KeepO.extR hk3 (Ext.drew (Ext.refl _))).setB (fun h => by omega) _).setB (fun h => by omega) _⟩, hDP⟩
  · have hb3p := hb3.h; try simp only [al_ete, al_dfn, Bool.not_eq_true', Bool.not_eq_false', al_ne, Bool.not_not, al_nn] at hb3p
    have hn0 : 0 < n := by omega
    have hnz2 := hnz hn0
    have hceY0 : Ce (ic .u64 Y) (0 + (0 : Int).toNat * 1) (.int .u64 (Y.getD 0 0)) := ce_ic (by omega)
    have hceYn : Ce (ic .u64 Y) (0 + ((n:Int) - 1).toNat * 1) (.int .u64 (Y.getD (n - 1) 0)) := by rw [show ((n:Int) - 1).toNat = n - 1 by omega]; exact ce_ic (by omega)
    refine W_skip ?_
    refine thn_normal ?_
    refine W_seq ?_
    refine W_region rfl ?_
    refine WO_p (PS_assign_int rfl) ?_
    refine WO_nil ?_
    refine thn_normal ?_
    refine W_seq ?_
    refine W_block ?_
    refine W_loopN (fun m ρ w' => ∃ (q : Nat), q = m ∧ q ≤ 8 ∧ (∀ k, q ≤ k → X.getD k 0 = 0) ∧ Fr [(0, .pointer (some ⟨bx, 0, none⟩)), (3, .pointer (some ⟨b3, 0, none⟩)), (4, .pointer (some ⟨b4, 0, none⟩)), (5, .pointer (some ⟨b5, 0, none⟩)), (6, .int .u8 n), (7, .int .u8 q)] ρ ∧ w' = w1) 8 ?_ ?_
    · exact ⟨8, rfl, by omega, fun k hk => getD_out (by omega), ⟨rfl, rfl, rfl, rfl, rfl, rfl, trivial⟩, rfl⟩
    intro m ρ w2 hI
    obtain ⟨q, hqm, hq8, hzx, hF, rfl⟩ := hI
    refine W_env _ hF ?_
    refine W_seq ?_
    refine W_seq ?_
    refine W_region rfl ?_
    refine WO_p (PS_move_int rfl) ?_
    refine WO_p (PS_gtr rfl rfl) ?_
    refine WO_p (PS_move_bool rfl) ?_
    refine WO_if (t := 25) rfl (fun hb5 => ?_) (fun hb5 => ?_)
    · have hb5p := hb5.h; try simp only [al_ete, al_dfn, Bool.not_eq_true', Bool.not_eq_false', al_ne, Bool.not_not, al_nn] at hb5p
      have hce : Ce (ic .u64 X) (0 + ((q:Int) - 1).toNat * 1) (.int .u64 (X.getD (q - 1) 0)) := by rw [show ((q:Int) - 1).toNat = q - 1 by omega]; exact ce_ic (by omega)
      refine WO_guardT rfl rfl hb5.h ?_
      refine WO_p (PS_move_ptr rfl) ?_
      refine WO_guardT rfl rfl hb5.h ?_
      refine WO_p (PS_move_int rfl) ?_
      refine WO_guardT rfl rfl hb5.h ?_
      refine WO_p (PS_sub_u8n rfl rfl (by omega) (by omega)) ?_
      refine WO_guardT rfl rfl hb5.h ?_
      refine WO_p (PS_nilCheck rfl) ?_
      refine WO_guardT rfl rfl hb5.h ?_
      refine WO_p (PS_indexA Hvac.runUnderlying63 Hvac.sizeOf26 rfl rfl (by omega) (by omega)) ?_
      refine WO_guardT rfl rfl hb5.h ?_
      refine WO_load (.int _ _) Hvac.isAgg26 rfl (Hb.h (by repeat (first | assumption | exact Hb.newY _ _ | refine Hb.alloc ?_ | refine Hb.drew ?_ | refine Hb.ext (by assumption) ?_ | exact Hb.setSameL (by first | omega | (simp only [size_alloc, size_setB, size_drew]; omega)) | exact Hb.setSame (by assumption) | refine Hb.set (by first | omega | (simp only [size_alloc, size_setB, size_drew]; omega)) ?_ ))) (Ce.h (by first | assumption | exact ⟨rfl⟩)) ?_
      refine WO_guardT rfl rfl hb5.h ?_
      refine WO_p (PS_eql rfl rfl) ?_
      refine WO_p (PS_pickT rfl hb5.h rfl) ?_
      refine WO_nil ?_
      refine thn_normal ?_
      refine W_if rfl (fun hb7 => ?_) (fun hb7 => ?_)
      · have hb7p := hb7.h; try simp only [al_ete, al_dfn, Bool.not_eq_true', Bool.not_eq_false', al_ne, Bool.not_not, al_nn] at hb7p
        have hx0 := hb7p
        refine W_skip ?_
        refine thn_normal ?_
        refine W_block ?_
        refine W_region rfl ?_
        refine WO_p (PS_move_int rfl) ?_
        refine WO_p (PS_sub_u8n rfl rfl (by omega) (by omega)) ?_
        refine WO_p (PS_assign_int rfl) ?_
        refine WO_nil ?_
        refine inBlk_normal ?_
        refine thn_normal ?_
        exact ⟨m - 1, by omega, q - 1, by omega, by omega, fun k hk => by rcases Nat.lt_or_ge k q with h9 | h9; (· rw [show k = q - 1 by omega]; exact hx0); exact hzx k h9, ⟨rfl, rfl, rfl, rfl, rfl, congrArg (Value.int .u8) (by omega), trivial⟩, rfl⟩
      · have hb7p := hb7.h; try simp only [al_ete, al_dfn, Bool.not_eq_true', Bool.not_eq_false', al_ne, Bool.not_not, al_nn] at hb7p
        refine W_exit ?_
        refine thn_exit ?_
        refine thn_exit ?_
        refine inBlk_exit ?_
        refine thn_normal ?_
        refine W_seq ?_
        refine W_seq ?_
        refine W_region rfl ?_
        refine WO_p (PS_move_int rfl) ?_
        refine WO_p (PS_move_int rfl) ?_
        refine WO_p (PS_lss rfl rfl) ?_
        refine WO_nil ?_
        refine thn_normal ?_
        refine W_if rfl (fun hb9 => ?_) (fun hb9 => ?_)
        · have hb9p := hb9.h; try simp only [al_ete, al_dfn, Bool.not_eq_true', Bool.not_eq_false', al_ne, Bool.not_not, al_nn] at hb9p
          refine W_seq ?_
          refine W_region rfl ?_
          refine WO_p (PS_move_ptr rfl) ?_
          refine WO_p (PS_nilCheck rfl) ?_
          refine WO_p (PS_slA_h Hvac.runUnderlying63 Hvac.sizeOf26 rfl rfl (by omega) (by omega) (by omega)) ?_
          refine WO_p (PS_arrayAt Hvac.runUnderlying61 rfl (by omega)) ?_
          refine WO_loadA _ Hvac.isAgg61 Hvac.sizeOf61 rfl (Hb.h (by repeat (first | assumption | exact Hb.newY _ _ | refine Hb.alloc ?_ | refine Hb.drew ?_ | refine Hb.ext (by assumption) ?_ | exact Hb.setSameL (by first | omega | (simp only [size_alloc, size_setB, size_drew]; omega)) | exact Hb.setSame (by assumption) | refine Hb.set (by first | omega | (simp only [size_alloc, size_setB, size_drew]; omega)) ?_ ))) (by first | omega | assumption | rfl | decide | exact Nat.le_refl _ | (simp only [size_ic, Value.cells]; omega) | (simp; omega) | simp) (Xt.h (by first | assumption | exact Xt.whole rfl rfl | exact Xt.whole rfl (by assumption) | exact Xt.whole rfl (by simp only [size_ic, Value.cells]; omega) | exact ⟨rfl⟩)) ?_
          refine WO_storeW Hvac.sizeOf61 rfl (v := .agg _) rfl (Hb.h (by repeat (first | assumption | exact Hb.newY _ _ | refine Hb.alloc ?_ | refine Hb.drew ?_ | refine Hb.ext (by assumption) ?_ | exact Hb.setSameL (by first | omega | (simp only [size_alloc, size_setB, size_drew]; omega)) | exact Hb.setSame (by assumption) | refine Hb.set (by first | omega | (simp only [size_alloc, size_setB, size_drew]; omega)) ?_ ))) rfl (by first | rfl | (simp only [size_ic, Value.cells]; omega)) (by first | rfl | (simp only [size_ic]; omega)) oneCell_ic ?_
          change WO _ _ _ _ _ (setB _ _ (.cells (ic .u64 (X.take 4)) 61 (0, 0)))
          refine WO_nil ?_
          refine thn_normal ?_
          refine W_seq ?_
          refine W_region rfl ?_
          refine WO_p (PS_move_ptr rfl) ?_
          refine WO_p (PS_nilCheck rfl) ?_
          refine WO_p (PS_slA Hvac.runUnderlying63 Hvac.sizeOf26 rfl (by omega)) ?_
          refine WO_clearX (b := bx) (T := T) (L := X) Hvac.runUnderlying280 Hvac.zeroValue26 rfl (Hb.mk (Hb.h (by repeat (first | assumption | exact Hb.newY _ _ | refine Hb.alloc ?_ | refine Hb.drew ?_ | refine Hb.ext (by assumption) ?_ | exact Hb.setSameL (by first | omega | (simp only [size_alloc, size_setB, size_drew]; omega)) | exact Hb.setSame (by assumption) | refine Hb.set (by first | omega | (simp only [size_alloc, size_setB, size_drew]; omega)) ?_ )))) (by omega) (by omega) ?_
          intro w10 X10 hU10 hXe10
          have hXz10 : ∀ k, X10.getD k 0 = 0 := fun k => by rw [hXe10]; exact getD_rep _ _
          have hz10 := hU10.keep.sz
          try simp only [size_alloc, size_setB, size_drew] at hz10
          have hb410 := hU10.other (Hb.mk (Hb.h (by repeat (first | assumption | exact Hb.newY _ _ | refine Hb.alloc ?_ | refine Hb.drew ?_ | refine Hb.ext (by assumption) ?_ | exact Hb.setSameL (by first | omega | (simp only [size_alloc, size_setB, size_drew]; omega)) | exact Hb.setSame (by assumption) | refine Hb.set (by first | omega | (simp only [size_alloc, size_setB, size_drew]; omega)) ?_ ))) : Hb _ b4 (.cells (ic .u64 (X.take 4)) 61 (0, 0))) (by omega)
          have hb510 := hU10.other (Hb.mk (Hb.h (by repeat (first | assumption | exact Hb.newY _ _ | refine Hb.alloc ?_ | refine Hb.drew ?_ | refine Hb.ext (by assumption) ?_ | exact Hb.setSameL (by first | omega | (simp only [size_alloc, size_setB, size_drew]; omega)) | exact Hb.setSame (by assumption) | refine Hb.set (by first | omega | (simp only [size_alloc, size_setB, size_drew]; omega)) ?_ ))) : Hb _ b5 (.cells (ic .u8 [0, 0, 0]) 369 (0, 0))) (by omega)
          have hk10 : KeepO (fun x => x = bx) w w10 := KeepO.ut (hk1.setB (x := b4) (fun h => by omega) _) hU10 (Or.inr rfl)
          have hXb10 := hU10.hb
          refine WO_nil ?_
          refine thn_normal ?_
          refine W_seq ?_
          have hDP : DivP X Y X10 (X.take 4) := divp_small hXL hxl hY hn0 hn4 hzz hnz2 (by omega) hzx hXz10 hxW
          refine W_drawT2 [false, false, true, false] (RetS b4 b5 (X.take 4) [0, 0, 0]) hmix (by kernel_rfl) rfl ⟨Hb.mk (Hb.h (by repeat (first | assumption | exact Hb.newY _ _ | refine Hb.alloc ?_ | refine Hb.drew ?_ | refine Hb.ext (by assumption) ?_ | exact Hb.setSameL (by first | omega | (simp only [size_alloc, size_setB, size_drew]; omega)) | exact Hb.setSame (by assumption) | refine Hb.set (by first | omega | (simp only [size_alloc, size_setB, size_drew]; omega)) ?_ ))), Hb.mk (Hb.h (by repeat (first | assumption | exact Hb.newY _ _ | refine Hb.alloc ?_ | refine Hb.drew ?_ | refine Hb.ext (by assumption) ?_ | exact Hb.setSameL (by first | omega | (simp only [size_alloc, size_setB, size_drew]; omega)) | exact Hb.setSame (by assumption) | refine Hb.set (by first | omega | (simp only [size_alloc, size_setB, size_drew]; omega)) ?_ )))⟩ ?_
          intro hSt
          have hSt4 := hSt.h4
          have hSt5 := hSt.h5
          have hSt5l := hSt5.lt
          have hSt4l := hSt4.lt
          try simp only [size_drew] at hSt5l hSt4l
          refine WH_loadA0 (ic .u64 (X.take 4)) Hvac.isAgg61 Hvac.sizeOf61 rfl (fun w' hS => row_at hS.h4 (by first | omega | assumption | rfl | decide | exact Nat.le_refl _ | (simp only [size_ic, Value.cells]; omega) | (simp; omega) | simp)) ?_
          refine WH_loadA0 (ic .u8 [0, 0, 0]) Hvac.isAgg369 Hvac.sizeOf369 rfl (fun w' hS => row_at hS.h5 (by first | omega | assumption | rfl | decide | exact Nat.le_refl _ | (simp only [size_ic, Value.cells]; omega) | (simp; omega) | simp)) ?_
          first | refine WH_storeW Hvac.sizeOf61 rfl (v := .agg _) rfl (Hb.h (by repeat (first | assumption | exact Hb.newY _ _ | refine Hb.alloc ?_ | refine Hb.drew ?_ | refine Hb.ext (by assumption) ?_ | exact Hb.setSameL (by first | omega | (simp only [size_alloc, size_setB, size_drew]; omega)) | exact Hb.setSame (by assumption) | refine Hb.set (by first | omega | (simp only [size_alloc, size_setB, size_drew]; omega)) ?_ ))) rfl (by first | rfl | (simp only [size_ic, Value.cells]; omega)) (by first | rfl | (simp only [size_ic]; omega)) oneCell_ic (fun _ => ⟨Hb.setSame hSt4, Hb.set (by omega) hSt5⟩) ?_ | refine WH_storeW Hvac.sizeOf369 rfl (v := .agg _) rfl (Hb.h (by repeat (first | assumption | exact Hb.newY _ _ | refine Hb.alloc ?_ | refine Hb.drew ?_ | refine Hb.ext (by assumption) ?_ | exact Hb.setSameL (by first | omega | (simp only [size_alloc, size_setB, size_drew]; omega)) | exact Hb.setSame (by assumption) | refine Hb.set (by first | omega | (simp only [size_alloc, size_setB, size_drew]; omega)) ?_ ))) rfl (by first | rfl | (simp only [size_ic, Value.cells]; omega)) (by first | rfl | (simp only [size_ic]; omega)) oneCell_ic (fun h => by cases h) ?_
          first | refine WH_storeW Hvac.sizeOf61 rfl (v := .agg _) rfl (Hb.h (by repeat (first | assumption | exact Hb.newY _ _ | refine Hb.alloc ?_ | refine Hb.drew ?_ | refine Hb.ext (by assumption) ?_ | exact Hb.setSameL (by first | omega | (simp only [size_alloc, size_setB, size_drew]; omega)) | exact Hb.setSame (by assumption) | refine Hb.set (by first | omega | (simp only [size_alloc, size_setB, size_drew]; omega)) ?_ ))) rfl (by first | rfl | (simp only [size_ic, Value.cells]; omega)) (by first | rfl | (simp only [size_ic]; omega)) oneCell_ic (fun _ => ⟨Hb.setSame hSt4, Hb.set (by omega) hSt5⟩) ?_ | refine WH_storeW Hvac.sizeOf369 rfl (v := .agg _) rfl (Hb.h (by repeat (first | assumption | exact Hb.newY _ _ | refine Hb.alloc ?_ | refine Hb.drew ?_ | refine Hb.ext (by assumption) ?_ | exact Hb.setSameL (by first | omega | (simp only [size_alloc, size_setB, size_drew]; omega)) | exact Hb.setSame (by assumption) | refine Hb.set (by first | omega | (simp only [size_alloc, size_setB, size_drew]; omega)) ?_ ))) rfl (by first | rfl | (simp only [size_ic, Value.cells]; omega)) (by first | rfl | (simp only [size_ic]; omega)) oneCell_ic (fun h => by cases h) ?_
          refine WH_nil ?_
          refine thn_normal ?_
          refine W_ret ?_
          refine thn_ret ?_
          refine bodyQ_cell2 Hvac.results371 rfl rfl Hvac.isAgg61 Hvac.sizeOf61 Hvac.isAgg369 Hvac.sizeOf369 rfl (Hb.h (by repeat (first | assumption | exact Hb.newY _ _ | refine Hb.alloc ?_ | refine Hb.drew ?_ | refine Hb.ext (by assumption) ?_ | exact Hb.setSameL (by first | omega | (simp only [size_alloc, size_setB, size_drew]; omega)) | exact Hb.setSame (by assumption) | refine Hb.set (by first | omega | (simp only [size_alloc, size_setB, size_drew]; omega)) ?_ ))) (by first | omega | assumption | rfl | decide | exact Nat.le_refl _ | (simp only [size_ic, Value.cells]; omega) | (simp; omega) | simp) rfl (Hb.h (by repeat (first | assumption | exact Hb.newY _ _ | refine Hb.alloc ?_ | refine Hb.drew ?_ | refine Hb.ext (by assumption) ?_ | exact Hb.setSameL (by first | omega | (simp only [size_alloc, size_setB, size_drew]; omega)) | exact Hb.setSame (by assumption) | refine Hb.set (by first | omega | (simp only [size_alloc, size_setB, size_drew]; omega)) ?_ ))) (by first | omega | assumption | rfl | decide | exact Nat.le_refl _ | (simp only [size_ic, Value.cells]; omega) | (simp; omega) | simp) ?_
          exact ⟨_, _, X10, rfl, hxW, rfl, ⟨hU10.len, hU10.ty hXL, Hb.mk (Hb.h (by repeat (first | assumption | exact Hb.newY _ _ | refine Hb.alloc ?_ | refine Hb.drew ?_ | refine Hb.ext (by assumption) ?_ | exact Hb.setSameL (by first | omega | (simp only [size_alloc, size_setB, size_drew]; omega)) | exact Hb.setSame (by assumption) | refine Hb.set (by first | omega | (simp only [size_alloc, size_setB, size_drew]; omega)) ?_ ))), ((KeepO.extR hk10 (Ext.drew (Ext.refl _))).setB (fun h => by omega) _).setB (fun h => by omega) _⟩, hDP⟩
        · have hb9p := hb9.h; try simp only [al_ete, al_dfn, Bool.not_eq_true', Bool.not_eq_false', al_ne, Bool.not_not, al_nn] at hb9p
          refine W_skip ?_
          refine thn_normal ?_
          refine W_seq ?_
          have hnq : n ≤ q := by omega
          refine W_region rfl ?_
          refine WO_p (PS_move_int rfl) ?_
          refine WO_p (PS_move_int rfl) ?_
          refine WO_p (PS_sub_u8n rfl rfl (by omega) (by omega)) ?_
          refine WO_p (PS_add_u8n rfl rfl (by omega) (by omega)) ?_
          refine WO_p (PS_fieldAddr 0 Hvac.runUnderlying369 rfl Hvac.sizeOf5 rfl rfl) ?_
          refine WO_storeBx (b := b5) (T := 369) (L := [0, 0, 0]) Hvac.sizeOf5 rfl rfl (Hb.mk (Hb.h (by repeat (first | assumption | exact Hb.newY _ _ | refine Hb.alloc ?_ | refine Hb.drew ?_ | refine Hb.ext (by assumption) ?_ | exact Hb.setSameL (by first | omega | (simp only [size_alloc, size_setB, size_drew]; omega)) | exact Hb.setSame (by assumption) | refine Hb.set (by first | omega | (simp only [size_alloc, size_setB, size_drew]; omega)) ?_ )))) (by decide) (by omega) ?_
          intro w12 hT12
          obtain ⟨p12, hpe⟩ : ∃ p12, ([0, 0, 0] : List Int).set (0 + 0) ((q : Int) - n + 1) = p12 := ⟨_, rfl⟩
          rw [hpe] at hT12
          have hce0 : Ce (ic .u8 p12) (0 + 0) (.int .u8 ((q : Int) - n + 1)) := by rw [← hpe]; exact ⟨rfl⟩
          have hz12 := hT12.keep.sz
          have hBy12 : By8 p12 := hT12.ty (by_zero 3)
          have hp12 : p12.length = 3 := hT12.len
          have hb312 := hT12.other (Hb.mk (Hb.h (by repeat (first | assumption | exact Hb.newY _ _ | refine Hb.alloc ?_ | refine Hb.drew ?_ | refine Hb.ext (by assumption) ?_ | exact Hb.setSameL (by first | omega | (simp only [size_alloc, size_setB, size_drew]; omega)) | exact Hb.setSame (by assumption) | refine Hb.set (by first | omega | (simp only [size_alloc, size_setB, size_drew]; omega)) ?_ ))) : Hb _ b3 (.cells (ic .u64 Y) 61 (0, 0))) (by omega)
          have hb412 := hT12.other (Hb.mk (Hb.h (by repeat (first | assumption | exact Hb.newY _ _ | refine Hb.alloc ?_ | refine Hb.drew ?_ | refine Hb.ext (by assumption) ?_ | exact Hb.setSameL (by first | omega | (simp only [size_alloc, size_setB, size_drew]; omega)) | exact Hb.setSame (by assumption) | refine Hb.set (by first | omega | (simp only [size_alloc, size_setB, size_drew]; omega)) ?_ ))) : Hb _ b4 (.cells (ic .u64 [0, 0, 0, 0]) 61 (0, 0))) (by omega)
          have hXb12 := hT12.other (Hb.mk (Hb.h (by repeat (first | assumption | exact Hb.newY _ _ | refine Hb.alloc ?_ | refine Hb.drew ?_ | refine Hb.ext (by assumption) ?_ | exact Hb.setSameL (by first | omega | (simp only [size_alloc, size_setB, size_drew]; omega)) | exact Hb.setSame (by assumption) | refine Hb.set (by first | omega | (simp only [size_alloc, size_setB, size_drew]; omega)) ?_ ))) : Hb _ bx (.cells (ic .u64 X) T (0, 0))) (by omega)
          have hb512 := hT12.hb
          have hk12 := hk1.bt hT12 (Or.inl (by omega))
          refine WO_nil ?_
          refine thn_normal ?_
          refine W_seq ?_
          refine W_seq ?_
          refine W_region rfl ?_
          refine WO_p (PS_move_int rfl) ?_
          refine WO_p (PS_eql rfl rfl) ?_
          refine WO_nil ?_
          refine thn_normal ?_
          refine W_if rfl (fun hb11 => ?_) (fun hb11 => ?_)
          · have hb11p := hb11.h; try simp only [al_ete, al_dfn, Bool.not_eq_true', Bool.not_eq_false', al_ne, Bool.not_not, al_nn] at hb11p
            have hY0 : 0 < Y.getD 0 0 := by have h1 := hYg 0; rw [show n - 1 = 0 by omega] at hnz2; omega
            refine W_seq ?_
            refine W_region rfl ?_
            refine WO_p (PS_move_ptr rfl) ?_
            refine WO_p (PS_move_int rfl) ?_
            refine WO_p (PS_indexA Hvac.runUnderlying61 Hvac.sizeOf26 rfl rfl (by omega) (by omega)) ?_
            refine WO_load (.int _ _) Hvac.isAgg26 rfl (Hb.h (by repeat (first | assumption | exact Hb.newY _ _ | refine Hb.alloc ?_ | refine Hb.drew ?_ | refine Hb.ext (by assumption) ?_ | exact Hb.setSameL (by first | omega | (simp only [size_alloc, size_setB, size_drew]; omega)) | exact Hb.setSame (by assumption) | refine Hb.set (by first | omega | (simp only [size_alloc, size_setB, size_drew]; omega)) ?_ ))) (Ce.h (by first | assumption | exact ⟨rfl⟩)) ?_
            refine WO_call Hvac.call378 (by rfl) (Ret.mono (short_ex bx q T X _ _ (Hb.mk (Hb.h (by repeat (first | assumption | exact Hb.newY _ _ | refine Hb.alloc ?_ | refine Hb.drew ?_ | refine Hb.ext (by assumption) ?_ | exact Hb.setSameL (by first | omega | (simp only [size_alloc, size_setB, size_drew]; omega)) | exact Hb.setSame (by assumption) | refine Hb.set (by first | omega | (simp only [size_alloc, size_setB, size_drew]; omega)) ?_ )))) hXL hxl (by omega) ⟨hY0, (hYg 0).2⟩) ?_)
            rintro _ w14 ⟨r14, rfl, hr14q, X14, hl14, hUL14, hXx14, hkk14, hlv14, hou14⟩
            have hU14 : UT bx T X _ w14 X14 := ⟨hl14, fun _ => hUL14, hXx14, hkk14⟩
            have hr14 : 0 ≤ r14 ∧ r14 ≤ 18446744073709551615 := ⟨hr14q.1, by have := (hYg 0).2; omega⟩
            have hz14 := hU14.keep.sz
            have hb414 := hU14.other (Hb.mk (Hb.h (by repeat (first | assumption | exact Hb.newY _ _ | refine Hb.alloc ?_ | refine Hb.drew ?_ | refine Hb.ext (by assumption) ?_ | exact Hb.setSameL (by first | omega | (simp only [size_alloc, size_setB, size_drew]; omega)) | exact Hb.setSame (by assumption) | refine Hb.set (by first | omega | (simp only [size_alloc, size_setB, size_drew]; omega)) ?_ ))) : Hb _ b4 (.cells (ic .u64 [0, 0, 0, 0]) 61 (0, 0))) (by omega)
            have hb514 := hU14.other (Hb.mk (Hb.h (by repeat (first | assumption | exact Hb.newY _ _ | refine Hb.alloc ?_ | refine Hb.drew ?_ | refine Hb.ext (by assumption) ?_ | exact Hb.setSameL (by first | omega | (simp only [size_alloc, size_setB, size_drew]; omega)) | exact Hb.setSame (by assumption) | refine Hb.set (by first | omega | (simp only [size_alloc, size_setB, size_drew]; omega)) ?_ ))) : Hb _ b5 (.cells (ic .u8 p12) 369 (0, 0))) (by omega)
            have hk14 := hk12.ut hU14 (Or.inr rfl)
            have hXb14 := hU14.hb
            refine WO_p (PS_indexA Hvac.runUnderlying61 Hvac.sizeOf26 rfl rfl (by omega) (by omega)) ?_
            refine WO_storeX (b := b4) (T := 61) (L := [0, 0, 0, 0]) Hvac.sizeOf26 rfl rfl (Hb.mk (Hb.h (by repeat (first | assumption | exact Hb.newY _ _ | refine Hb.alloc ?_ | refine Hb.drew ?_ | refine Hb.ext (by assumption) ?_ | exact Hb.setSameL (by first | omega | (simp only [size_alloc, size_setB, size_drew]; omega)) | exact Hb.setSame (by assumption) | refine Hb.set (by first | omega | (simp only [size_alloc, size_setB, size_drew]; omega)) ?_ )))) (by decide) hr14 ?_
            intro w15 R15 hU15 hRe15
            have hz15 := hU15.keep.sz
            have hWd15 : Wd R15 := ⟨hU15.len, hU15.ty Wd0.2⟩
            have hR15l := hWd15.1
            have hb515 := hU15.other (Hb.mk (Hb.h (by repeat (first | assumption | exact Hb.newY _ _ | refine Hb.alloc ?_ | refine Hb.drew ?_ | refine Hb.ext (by assumption) ?_ | exact Hb.setSameL (by first | omega | (simp only [size_alloc, size_setB, size_drew]; omega)) | exact Hb.setSame (by assumption) | refine Hb.set (by first | omega | (simp only [size_alloc, size_setB, size_drew]; omega)) ?_ ))) : Hb _ b5 (.cells (ic .u8 p12) 369 (0, 0))) (by omega)
            have hXb15 := hU15.other (Hb.mk (Hb.h (by repeat (first | assumption | exact Hb.newY _ _ | refine Hb.alloc ?_ | refine Hb.drew ?_ | refine Hb.ext (by assumption) ?_ | exact Hb.setSameL (by first | omega | (simp only [size_alloc, size_setB, size_drew]; omega)) | exact Hb.setSame (by assumption) | refine Hb.set (by first | omega | (simp only [size_alloc, size_setB, size_drew]; omega)) ?_ ))) : Hb _ bx (.cells (ic .u64 X14) T (0, 0))) (by omega)
            have hb415 := hU15.hb
            have hk15 := hk14.ut hU15 (Or.inl (by omega))
            refine WO_nil ?_
            refine thn_normal ?_
            refine W_seq ?_
            have hDP : DivP X Y X14 R15 := divp_short (q := q) (r := r14) hY hq8 (fun k hk => hzz k (by omega)) (by rw [show n - 1 = 0 by omega] at hnz2; exact hnz2) hzx hr14q hlv14 hou14 (by rw [hRe15]; rfl)
            refine W_drawT2 [false, false, true, false] (RetS b4 b5 R15 p12) hmix (by kernel_rfl) rfl ⟨Hb.mk (Hb.h (by repeat (first | assumption | exact Hb.newY _ _ | refine Hb.alloc ?_ | refine Hb.drew ?_ | refine Hb.ext (by assumption) ?_ | exact Hb.setSameL (by first | omega | (simp only [size_alloc, size_setB, size_drew]; omega)) | exact Hb.setSame (by assumption) | refine Hb.set (by first | omega | (simp only [size_alloc, size_setB, size_drew]; omega)) ?_ ))), Hb.mk (Hb.h (by repeat (first | assumption | exact Hb.newY _ _ | refine Hb.alloc ?_ | refine Hb.drew ?_ | refine Hb.ext (by assumption) ?_ | exact Hb.setSameL (by first | omega | (simp only [size_alloc, size_setB, size_drew]; omega)) | exact Hb.setSame (by assumption) | refine Hb.set (by first | omega | (simp only [size_alloc, size_setB, size_drew]; omega)) ?_ )))⟩ ?_
            intro hSt
            have hSt4 := hSt.h4
            have hSt5 := hSt.h5
            have hSt5l := hSt5.lt
            have hSt4l := hSt4.lt
            try simp only [size_drew] at hSt5l hSt4l
            refine WH_loadA0 (ic .u64 R15) Hvac.isAgg61 Hvac.sizeOf61 rfl (fun w' hS => row_at hS.h4 (by first | omega | assumption | rfl | decide | exact Nat.le_refl _ | (simp only [size_ic, Value.cells]; omega) | (simp; omega) | simp)) ?_
            refine WH_loadA0 (ic .u8 p12) Hvac.isAgg369 Hvac.sizeOf369 rfl (fun w' hS => row_at hS.h5 (by first | omega | assumption | rfl | decide | exact Nat.le_refl _ | (simp only [size_ic, Value.cells]; omega) | (simp; omega) | simp)) ?_
            first | refine WH_storeW Hvac.sizeOf61 rfl (v := .agg _) rfl (Hb.h (by repeat (first | assumption | exact Hb.newY _ _ | refine Hb.alloc ?_ | refine Hb.drew ?_ | refine Hb.ext (by assumption) ?_ | exact Hb.setSameL (by first | omega | (simp only [size_alloc, size_setB, size_drew]; omega)) | exact Hb.setSame (by assumption) | refine Hb.set (by first | omega | (simp only [size_alloc, size_setB, size_drew]; omega)) ?_ ))) rfl (by first | rfl | (simp only [size_ic, Value.cells]; omega)) (by first | rfl | (simp only [size_ic]; omega)) oneCell_ic (fun _ => ⟨Hb.setSame hSt4, Hb.set (by omega) hSt5⟩) ?_ | refine WH_storeW Hvac.sizeOf369 rfl (v := .agg _) rfl (Hb.h (by repeat (first | assumption | exact Hb.newY _ _ | refine Hb.alloc ?_ | refine Hb.drew ?_ | refine Hb.ext (by assumption) ?_ | exact Hb.setSameL (by first | omega | (simp only [size_alloc, size_setB, size_drew]; omega)) | exact Hb.setSame (by assumption) | refine Hb.set (by first | omega | (simp only [size_alloc, size_setB, size_drew]; omega)) ?_ ))) rfl (by first | rfl | (simp only [size_ic, Value.cells]; omega)) (by first | rfl | (simp only [size_ic]; omega)) oneCell_ic (fun h => by cases h) ?_
            first | refine WH_storeW Hvac.sizeOf61 rfl (v := .agg _) rfl (Hb.h (by repeat (first | assumption | exact Hb.newY _ _ | refine Hb.alloc ?_ | refine Hb.drew ?_ | refine Hb.ext (by assumption) ?_ | exact Hb.setSameL (by first | omega | (simp only [size_alloc, size_setB, size_drew]; omega)) | exact Hb.setSame (by assumption) | refine Hb.set (by first | omega | (simp only [size_alloc, size_setB, size_drew]; omega)) ?_ ))) rfl (by first | rfl | (simp only [size_ic, Value.cells]; omega)) (by first | rfl | (simp only [size_ic]; omega)) oneCell_ic (fun _ => ⟨Hb.setSame hSt4, Hb.set (by omega) hSt5⟩) ?_ | refine WH_storeW Hvac.sizeOf369 rfl (v := .agg _) rfl (Hb.h (by repeat (first | assumption | exact Hb.newY _ _ | refine Hb.alloc ?_ | refine Hb.drew ?_ | refine Hb.ext (by assumption) ?_ | exact Hb.setSameL (by first | omega | (simp only [size_alloc, size_setB, size_drew]; omega)) | exact Hb.setSame (by assumption) | refine Hb.set (by first | omega | (simp only [size_alloc, size_setB, size_drew]; omega)) ?_ ))) rfl (by first | rfl | (simp only [size_ic, Value.cells]; omega)) (by first | rfl | (simp only [size_ic]; omega)) oneCell_ic (fun h => by cases h) ?_
            refine WH_nil ?_
            refine thn_normal ?_
            refine W_ret ?_
            refine thn_ret ?_
            refine bodyQ_cell2 Hvac.results371 rfl rfl Hvac.isAgg61 Hvac.sizeOf61 Hvac.isAgg369 Hvac.sizeOf369 rfl (Hb.h (by repeat (first | assumption | exact Hb.newY _ _ | refine Hb.alloc ?_ | refine Hb.drew ?_ | refine Hb.ext (by assumption) ?_ | exact Hb.setSameL (by first | omega | (simp only [size_alloc, size_setB, size_drew]; omega)) | exact Hb.setSame (by assumption) | refine Hb.set (by first | omega | (simp only [size_alloc, size_setB, size_drew]; omega)) ?_ ))) (by first | omega | assumption | rfl | decide | exact Nat.le_refl _ | (simp only [size_ic, Value.cells]; omega) | (simp; omega) | simp) rfl (Hb.h (by repeat (first | assumption | exact Hb.newY _ _ | refine Hb.alloc ?_ | refine Hb.drew ?_ | refine Hb.ext (by assumption) ?_ | exact Hb.setSameL (by first | omega | (simp only [size_alloc, size_setB, size_drew]; omega)) | exact Hb.setSame (by assumption) | refine Hb.set (by first | omega | (simp only [size_alloc, size_setB, size_drew]; omega)) ?_ ))) (by first | omega | assumption | rfl | decide | exact Nat.le_refl _ | (simp only [size_ic, Value.cells]; omega) | (simp; omega) | simp) ?_
            exact ⟨_, _, X14, rfl, hWd15, hp12, ⟨hU14.len, hUL14, Hb.mk (Hb.h (by repeat (first | assumption | exact Hb.newY _ _ | refine Hb.alloc ?_ | refine Hb.drew ?_ | refine Hb.ext (by assumption) ?_ | exact Hb.setSameL (by first | omega | (simp only [size_alloc, size_setB, size_drew]; omega)) | exact Hb.setSame (by assumption) | refine Hb.set (by first | omega | (simp only [size_alloc, size_setB, size_drew]; omega)) ?_ ))), ((KeepO.extR hk15 (Ext.drew (Ext.refl _))).setB (fun h => by omega) _).setB (fun h => by omega) _⟩, hDP⟩
          · have hb11p := hb11.h; try simp only [al_ete, al_dfn, Bool.not_eq_true', Bool.not_eq_false', al_ne, Bool.not_not, al_nn] at hb11p
            refine W_skip ?_
            refine thn_normal ?_
            refine W_seq ?_
            refine W_region rfl ?_
            refine WO_allocG Hvac.zeroValue423 ?_
            intro b8 v8 hg8 hE8 hH8 hl8
            try simp only [size_alloc, size_setB, size_drew] at hg8
            have hzz8 := hE8.1
            try simp only [size_alloc, size_setB, size_drew] at hzz8
            replace hH8 : Hb v8 b8 (.cells (ic .u64 (List.replicate 9 0)) 423 (0, 0)) := hH8
            refine WO_nil ?_
            refine thn_normal ?_
            refine W_seq ?_
            refine W_drawE [false, false, false, false, false] hmix (by kernel_rfl) rfl ?_
            refine WH_p (PS_slA Hvac.runUnderlying423 Hvac.sizeOf26 rfl (by omega)) rfl ?_
            refine WH_p (PS_move_ptr rfl) rfl ?_
            refine WH_p (PS_nilCheck rfl) rfl ?_
            refine WH_p (PS_slA Hvac.runUnderlying63 Hvac.sizeOf26 rfl (by omega)) rfl ?_
            refine WH_copyX (b := b8) (T := 423) (L := List.replicate 9 0) (b2 := bx) (L2 := X) Hvac.runUnderlying280 Hvac.sizeOf26 rfl rfl (Hb.mk (Hb.h (by repeat (first | assumption | exact Hb.newY _ _ | refine Hb.alloc ?_ | refine Hb.drew ?_ | refine Hb.ext (by assumption) ?_ | exact Hb.setSameL (by first | omega | (simp only [size_alloc, size_setB, size_drew]; omega)) | exact Hb.setSame (by assumption) | refine Hb.set (by first | omega | (simp only [size_alloc, size_setB, size_drew]; omega)) ?_ )))) (Hb.mk (Hb.h (by repeat (first | assumption | exact Hb.newY _ _ | refine Hb.alloc ?_ | refine Hb.drew ?_ | refine Hb.ext (by assumption) ?_ | exact Hb.setSameL (by first | omega | (simp only [size_alloc, size_setB, size_drew]; omega)) | exact Hb.setSame (by assumption) | refine Hb.set (by first | omega | (simp only [size_alloc, size_setB, size_drew]; omega)) ?_ )))) (by omega) (by omega) hxl hXL ?_
            intro w17 U17 hU17 hUe17
            have hz17 := hU17.keep.sz
            try simp only [size_alloc, size_setB, size_drew] at hz17
            have hUL17 := hU17.ty (ULr 9)
            have hu17 := hU17.len
            have hb317 := hU17.other (Hb.mk (Hb.h (by repeat (first | assumption | exact Hb.newY _ _ | refine Hb.alloc ?_ | refine Hb.drew ?_ | refine Hb.ext (by assumption) ?_ | exact Hb.setSameL (by first | omega | (simp only [size_alloc, size_setB, size_drew]; omega)) | exact Hb.setSame (by assumption) | refine Hb.set (by first | omega | (simp only [size_alloc, size_setB, size_drew]; omega)) ?_ ))) : Hb _ b3 (.cells (ic .u64 Y) 61 (0, 0))) (by omega)
            have hb417 := hU17.other (Hb.mk (Hb.h (by repeat (first | assumption | exact Hb.newY _ _ | refine Hb.alloc ?_ | refine Hb.drew ?_ | refine Hb.ext (by assumption) ?_ | exact Hb.setSameL (by first | omega | (simp only [size_alloc, size_setB, size_drew]; omega)) | exact Hb.setSame (by assumption) | refine Hb.set (by first | omega | (simp only [size_alloc, size_setB, size_drew]; omega)) ?_ ))) : Hb _ b4 (.cells (ic .u64 [0, 0, 0, 0]) 61 (0, 0))) (by omega)
            have hb517 := hU17.other (Hb.mk (Hb.h (by repeat (first | assumption | exact Hb.newY _ _ | refine Hb.alloc ?_ | refine Hb.drew ?_ | refine Hb.ext (by assumption) ?_ | exact Hb.setSameL (by first | omega | (simp only [size_alloc, size_setB, size_drew]; omega)) | exact Hb.setSame (by assumption) | refine Hb.set (by first | omega | (simp only [size_alloc, size_setB, size_drew]; omega)) ?_ ))) : Hb _ b5 (.cells (ic .u8 p12) 369 (0, 0))) (by omega)
            have hbx17 := hU17.other (Hb.mk (Hb.h (by repeat (first | assumption | exact Hb.newY _ _ | refine Hb.alloc ?_ | refine Hb.drew ?_ | refine Hb.ext (by assumption) ?_ | exact Hb.setSameL (by first | omega | (simp only [size_alloc, size_setB, size_drew]; omega)) | exact Hb.setSame (by assumption) | refine Hb.set (by first | omega | (simp only [size_alloc, size_setB, size_drew]; omega)) ?_ ))) : Hb _ bx (.cells (ic .u64 X) T (0, 0))) (by omega)
            have hb817 := hU17.hb
            have hk17 := ((hk12.extR hE8).extR (Ext.drew (Ext.refl _))).ut hU17 (Or.inl (by omega))
            refine ⟨(fun h => by cases h), ?_⟩
            refine WH_nil ?_
            refine thn_normal ?_
            refine W_seq ?_
            refine W_region rfl ?_
            refine WO_p (PS_move_int rfl) ?_
            refine WO_p (PS_sub_u8n rfl rfl (by omega) (by omega)) ?_
            refine WO_p (PS_indexA Hvac.runUnderlying61 Hvac.sizeOf26 rfl rfl (by omega) (by omega)) ?_
            refine WO_load (.int _ _) Hvac.isAgg26 rfl (Hb.h (by repeat (first | assumption | exact Hb.newY _ _ | refine Hb.alloc ?_ | refine Hb.drew ?_ | refine Hb.ext (by assumption) ?_ | exact Hb.setSameL (by first | omega | (simp only [size_alloc, size_setB, size_drew]; omega)) | exact Hb.setSame (by assumption) | refine Hb.set (by first | omega | (simp only [size_alloc, size_setB, size_drew]; omega)) ?_ ))) (Ce.h (by first | assumption | exact ⟨rfl⟩)) ?_
            refine WO_call Hvac.call364 (by rfl) (Ret.mono (lz64_spec _ _ (hYg (n - 1))) ?_)
            rintro _ _ ⟨rfl, ln, rfl, hln, hLn⟩
            have hln1 := hLn.pos (by have := hYg (n - 1); omega)
            rw [show (64 : Int) - (ln : Int) = ((64 - ln : Nat) : Int) by omega]
            refine WO_p (PS_conv_u8n Hvac.runUnderlying3 Hvac.runUnderlying5 rfl (by omega) (by omega)) ?_
            refine WO_p (PS_assign_int rfl) ?_
            refine WO_nil ?_
            refine thn_normal ?_
            refine W_seq ?_
            refine W_region rfl ?_
            refine WO_p (PS_slA Hvac.runUnderlying423 Hvac.sizeOf26 rfl (by omega)) ?_
            refine WO_p (PS_move_int rfl) ?_
            refine WO_call Hvac.call365 (by rfl) (Ret.mono (shiftUp_ex b8 0 9 _ 423 U17 (64 - ln) _ (Hb.mk (Hb.h (by repeat (first | assumption | exact Hb.newY _ _ | refine Hb.alloc ?_ | refine Hb.drew ?_ | refine Hb.ext (by assumption) ?_ | exact Hb.setSameL (by first | omega | (simp only [size_alloc, size_setB, size_drew]; omega)) | exact Hb.setSame (by assumption) | refine Hb.set (by first | omega | (simp only [size_alloc, size_setB, size_drew]; omega)) ?_ )))) hUL17 (by omega) (by omega) (by omega)) ?_)
            rintro _ w19 ⟨rfl, U19, hl19, hUL19, hXx19, hkk19, ⟨c19, hc19, hlv19⟩, hou19⟩
            have hU19 : UT b8 423 U17 _ w19 U19 := ⟨hl19, fun _ => hUL19, hXx19, hkk19⟩
            have hz19 := hU19.keep.sz
            have hu19 := hU19.len
            have hb319 := hU19.other (Hb.mk (Hb.h (by repeat (first | assumption | exact Hb.newY _ _ | refine Hb.alloc ?_ | refine Hb.drew ?_ | refine Hb.ext (by assumption) ?_ | exact Hb.setSameL (by first | omega | (simp only [size_alloc, size_setB, size_drew]; omega)) | exact Hb.setSame (by assumption) | refine Hb.set (by first | omega | (simp only [size_alloc, size_setB, size_drew]; omega)) ?_ ))) : Hb _ b3 (.cells (ic .u64 Y) 61 (0, 0))) (by omega)
            have hb419 := hU19.other (Hb.mk (Hb.h (by repeat (first | assumption | exact Hb.newY _ _ | refine Hb.alloc ?_ | refine Hb.drew ?_ | refine Hb.ext (by assumption) ?_ | exact Hb.setSameL (by first | omega | (simp only [size_alloc, size_setB, size_drew]; omega)) | exact Hb.setSame (by assumption) | refine Hb.set (by first | omega | (simp only [size_alloc, size_setB, size_drew]; omega)) ?_ ))) : Hb _ b4 (.cells (ic .u64 [0, 0, 0, 0]) 61 (0, 0))) (by omega)
            have hb519 := hU19.other (Hb.mk (Hb.h (by repeat (first | assumption | exact Hb.newY _ _ | refine Hb.alloc ?_ | refine Hb.drew ?_ | refine Hb.ext (by assumption) ?_ | exact Hb.setSameL (by first | omega | (simp only [size_alloc, size_setB, size_drew]; omega)) | exact Hb.setSame (by assumption) | refine Hb.set (by first | omega | (simp only [size_alloc, size_setB, size_drew]; omega)) ?_ ))) : Hb _ b5 (.cells (ic .u8 p12) 369 (0, 0))) (by omega)
            have hbx19 := hU19.other (Hb.mk (Hb.h (by repeat (first | assumption | exact Hb.newY _ _ | refine Hb.alloc ?_ | refine Hb.drew ?_ | refine Hb.ext (by assumption) ?_ | exact Hb.setSameL (by first | omega | (simp only [size_alloc, size_setB, size_drew]; omega)) | exact Hb.setSame (by assumption) | refine Hb.set (by first | omega | (simp only [size_alloc, size_setB, size_drew]; omega)) ?_ ))) : Hb _ bx (.cells (ic .u64 X) T (0, 0))) (by omega)
            have hb819 := hU19.hb
            have hk19 := hk17.ut hU19 (Or.inl (by omega))
            refine WO_nil ?_
            refine thn_normal ?_
            refine W_seq ?_
            refine W_region rfl ?_
            refine WO_p (PS_slA Hvac.runUnderlying61 Hvac.sizeOf26 rfl (by omega)) ?_
            refine WO_p (PS_move_int rfl) ?_
            refine WO_call Hvac.call365 (by rfl) (Ret.mono (shiftUp_ex b3 0 4 _ 61 Y (64 - ln) _ (Hb.mk (Hb.h (by repeat (first | assumption | exact Hb.newY _ _ | refine Hb.alloc ?_ | refine Hb.drew ?_ | refine Hb.ext (by assumption) ?_ | exact Hb.setSameL (by first | omega | (simp only [size_alloc, size_setB, size_drew]; omega)) | exact Hb.setSame (by assumption) | refine Hb.set (by first | omega | (simp only [size_alloc, size_setB, size_drew]; omega)) ?_ )))) hY.2 (by omega) (by omega) (by omega)) ?_)
            rintro _ w20 ⟨rfl, Y20, hl20, hUL20, hXx20, hkk20, ⟨c20, hc20, hlv20⟩, hou20⟩
            have hU20 : UT b3 61 Y _ w20 Y20 := ⟨hl20, fun _ => hUL20, hXx20, hkk20⟩
            have hz20 := hU20.keep.sz
            have hWd20 : Wd Y20 := ⟨by rw [hU20.len]; exact hYl, hUL20⟩
            have hb820 := hU20.other (Hb.mk (Hb.h (by repeat (first | assumption | exact Hb.newY _ _ | refine Hb.alloc ?_ | refine Hb.drew ?_ | refine Hb.ext (by assumption) ?_ | exact Hb.setSameL (by first | omega | (simp only [size_alloc, size_setB, size_drew]; omega)) | exact Hb.setSame (by assumption) | refine Hb.set (by first | omega | (simp only [size_alloc, size_setB, size_drew]; omega)) ?_ ))) : Hb _ b8 (.cells (ic .u64 U19) 423 (0, 0))) (by omega)
            have hb420 := hU20.other (Hb.mk (Hb.h (by repeat (first | assumption | exact Hb.newY _ _ | refine Hb.alloc ?_ | refine Hb.drew ?_ | refine Hb.ext (by assumption) ?_ | exact Hb.setSameL (by first | omega | (simp only [size_alloc, size_setB, size_drew]; omega)) | exact Hb.setSame (by assumption) | refine Hb.set (by first | omega | (simp only [size_alloc, size_setB, size_drew]; omega)) ?_ ))) : Hb _ b4 (.cells (ic .u64 [0, 0, 0, 0]) 61 (0, 0))) (by omega)
            have hb520 := hU20.other (Hb.mk (Hb.h (by repeat (first | assumption | exact Hb.newY _ _ | refine Hb.alloc ?_ | refine Hb.drew ?_ | refine Hb.ext (by assumption) ?_ | exact Hb.setSameL (by first | omega | (simp only [size_alloc, size_setB, size_drew]; omega)) | exact Hb.setSame (by assumption) | refine Hb.set (by first | omega | (simp only [size_alloc, size_setB, size_drew]; omega)) ?_ ))) : Hb _ b5 (.cells (ic .u8 p12) 369 (0, 0))) (by omega)
            have hbx20 := hU20.other (Hb.mk (Hb.h (by repeat (first | assumption | exact Hb.newY _ _ | refine Hb.alloc ?_ | refine Hb.drew ?_ | refine Hb.ext (by assumption) ?_ | exact Hb.setSameL (by first | omega | (simp only [size_alloc, size_setB, size_drew]; omega)) | exact Hb.setSame (by assumption) | refine Hb.set (by first | omega | (simp only [size_alloc, size_setB, size_drew]; omega)) ?_ ))) : Hb _ bx (.cells (ic .u64 X) T (0, 0))) (by omega)
            have hb320 := hU20.hb
            have hk20 := hk19.ut hU20 (Or.inl (by omega))
            refine WO_nil ?_
            refine thn_normal ?_
            refine W_seq ?_
            refine W_region rfl ?_
            refine WO_p (PS_move_ptr rfl) ?_
            refine WO_p (PS_nilCheck rfl) ?_
            refine WO_p (PS_slA Hvac.runUnderlying63 Hvac.sizeOf26 rfl (by omega)) ?_
            refine WO_clearX (b := bx) (T := T) (L := X) Hvac.runUnderlying280 Hvac.zeroValue26 rfl (Hb.mk (Hb.h (by repeat (first | assumption | exact Hb.newY _ _ | refine Hb.alloc ?_ | refine Hb.drew ?_ | refine Hb.ext (by assumption) ?_ | exact Hb.setSameL (by first | omega | (simp only [size_alloc, size_setB, size_drew]; omega)) | exact Hb.setSame (by assumption) | refine Hb.set (by first | omega | (simp only [size_alloc, size_setB, size_drew]; omega)) ?_ )))) (by omega) (by omega) ?_
            intro w21 X21 hU21 hXe21
            have hXz21 : ∀ k, X21.getD k 0 = 0 := fun k => by rw [hXe21]; exact getD_rep _ _
            have hz21 := hU21.keep.sz
            try simp only [size_alloc, size_setB, size_drew] at hz21
            have hb321 := hU21.other (Hb.mk (Hb.h (by repeat (first | assumption | exact Hb.newY _ _ | refine Hb.alloc ?_ | refine Hb.drew ?_ | refine Hb.ext (by assumption) ?_ | exact Hb.setSameL (by first | omega | (simp only [size_alloc, size_setB, size_drew]; omega)) | exact Hb.setSame (by assumption) | refine Hb.set (by first | omega | (simp only [size_alloc, size_setB, size_drew]; omega)) ?_ ))) : Hb _ b3 (.cells (ic .u64 Y20) 61 (0, 0))) (by omega)
            have hb421 := hU21.other (Hb.mk (Hb.h (by repeat (first | assumption | exact Hb.newY _ _ | refine Hb.alloc ?_ | refine Hb.drew ?_ | refine Hb.ext (by assumption) ?_ | exact Hb.setSameL (by first | omega | (simp only [size_alloc, size_setB, size_drew]; omega)) | exact Hb.setSame (by assumption) | refine Hb.set (by first | omega | (simp only [size_alloc, size_setB, size_drew]; omega)) ?_ ))) : Hb _ b4 (.cells (ic .u64 [0, 0, 0, 0]) 61 (0, 0))) (by omega)
            have hb521 := hU21.other (Hb.mk (Hb.h (by repeat (first | assumption | exact Hb.newY _ _ | refine Hb.alloc ?_ | refine Hb.drew ?_ | refine Hb.ext (by assumption) ?_ | exact Hb.setSameL (by first | omega | (simp only [size_alloc, size_setB, size_drew]; omega)) | exact Hb.setSame (by assumption) | refine Hb.set (by first | omega | (simp only [size_alloc, size_setB, size_drew]; omega)) ?_ ))) : Hb _ b5 (.cells (ic .u8 p12) 369 (0, 0))) (by omega)
            have hb821 := hU21.other (Hb.mk (Hb.h (by repeat (first | assumption | exact Hb.newY _ _ | refine Hb.alloc ?_ | refine Hb.drew ?_ | refine Hb.ext (by assumption) ?_ | exact Hb.setSameL (by first | omega | (simp only [size_alloc, size_setB, size_drew]; omega)) | exact Hb.setSame (by assumption) | refine Hb.set (by first | omega | (simp only [size_alloc, size_setB, size_drew]; omega)) ?_ ))) : Hb _ b8 (.cells (ic .u64 U19) 423 (0, 0))) (by omega)
            have hk21 : KeepO (fun x => x = bx) w w21 := KeepO.ut hk20 hU21 (Or.inr rfl)
            have hXb21 := hU21.hb
            refine WO_nil ?_
            refine thn_normal ?_
            refine W_seq ?_
            refine W_seq ?_
            have hDU := div_up hY.2 hUL20 (N := 4) hn0 hn4 hln hLn.1 (hLn.2 hnz2) hzz hc20.1 hlv20
            have hYz20 : ∀ k, n ≤ k → Y20.getD k 0 = 0 := fun k hk => by
              rcases Nat.lt_or_ge k 4 with h9 | h9
              · exact hDU.2.2.2.1 k hk h9
              · exact getD_out (by have := hWd20.1; omega)
            have hX9 : lvr U17 0 9 = lvr X 0 8 := by
              have e1 : lvr U17 0 8 = lvr X 0 8 := lvr_congr 8 (fun k hk => by rw [hUe17, getD_app, if_pos (by omega)])
              rw [lvr_succ, e1, hUe17, getD_app, if_neg (by omega), show (List.replicate 9 (0 : Int)).drop 8 = [0] from rfl, show 0 + 8 - X.length = 0 by omega]
              simp
            have hXq := lvr_zero_from (L := X) (o := 0) (a := q) (8 - q) (fun k h1 h2 => by rw [Nat.zero_add]; exact hzx k h1)
            rw [show q + (8 - q) = 8 by omega] at hXq
            have hXb := lvr_bd hXL 0 q
            rw [← hXq] at hXb
            have hSb : (0:Int) < 2 ^ (64 - ln) ∧ (2:Int) ^ (64 - ln) ≤ 18446744073709551616 := by
              have h1 := pow64 hln
              have h2 := pow2_pos ln
              have h3 := pow2_pos (64 - ln)
              have : (2:Int) ^ (64 - ln) * 1 ≤ 2 ^ (64 - ln) * 2 ^ ln := Int.mul_le_mul_of_nonneg_left (by omega) (Int.le_of_lt h3)
              exact ⟨h3, by omega⟩
            have hU9 : lvr U19 0 9 = lvr X 0 8 * 2 ^ (64 - ln) := by
              rw [hX9] at hlv19
              refine up_exact (lvr_bd hUL19 0 9).1 hc19.1 hlv19 ?_
              have h8 := lvr_bd hXL 0 8
              have h5 : lvr X 0 8 * 2 ^ (64 - ln) ≤ lvr X 0 8 * 18446744073709551616 := Int.mul_le_mul_of_nonneg_left hSb.2 h8.1
              have h6 : (lvr X 0 8 + 1) * 18446744073709551616 ≤ 18446744073709551616 ^ 8 * 18446744073709551616 := Int.mul_le_mul_of_nonneg_right h8.2 (by decide)
              rw [show (18446744073709551616 : Int) ^ 9 = 18446744073709551616 ^ 8 * 18446744073709551616 from Int.pow_succ _ _]
              omega
            have hst := div_start (Y' := Y20) (X := X) hUL19 (q := q) (N := 9) hn0 hnq (by omega) hSb hXb hU9 hDU.2.2.1 hDU.2.2.2.2.2
            have hVp : 0 < lvr Y20 0 n := by
              have h1 := lvr_bd hUL19 (q - n + 1) n
              omega
            have hDI : DivI (lvr X 0 8 * 2 ^ (64 - ln)) (lvr Y20 0 n) n (q - n + 1) 9 8 X21 U19 := ⟨by rw [lvr_zeros (L := X21) 8 (fun k _ => hXz21 _), hU9]; omega, fun k _ => hXz21 k, fun k hk => by
              rcases Nat.lt_or_ge k 9 with h9 | h9
              · exact hst.1 k (by omega) h9
              · exact getD_out (by omega), hst.2⟩
            refine W_region rfl ?_
            refine WO_p (PS_fieldAddr 0 Hvac.runUnderlying369 rfl Hvac.sizeOf5 rfl rfl) ?_
            refine WO_load (.int _ _) Hvac.isAgg5 rfl (Hb.h (by repeat (first | assumption | exact Hb.newY _ _ | refine Hb.alloc ?_ | refine Hb.drew ?_ | refine Hb.ext (by assumption) ?_ | exact Hb.setSameL (by first | omega | (simp only [size_alloc, size_setB, size_drew]; omega)) | exact Hb.setSame (by assumption) | refine Hb.set (by first | omega | (simp only [size_alloc, size_setB, size_drew]; omega)) ?_ ))) (Ce.h (by first | assumption | exact ⟨rfl⟩)) ?_
            refine WO_p (PS_assign_int rfl) ?_
            refine WO_nil ?_
            refine thn_normal ?_
            refine W_block ?_
            refine W_loopN (fun m ρ w' => ∃ (j : Nat) (X5 U5 p5 : List Int), j = m ∧ j + n ≤ 9 ∧ DivI (lvr X 0 8 * 2 ^ (64 - ln)) (lvr Y20 0 n) n j 9 8 X5 U5 ∧ X5.length = 8 ∧ UL X5 ∧ U5.length = 9 ∧ UL U5 ∧ p5.length = 3 ∧ By8 p5 ∧ Fr [(0, .pointer (some ⟨bx, 0, none⟩)), (3, .pointer (some ⟨b3, 0, none⟩)), (4, .pointer (some ⟨b4, 0, none⟩)), (5, .pointer (some ⟨b5, 0, none⟩)), (6, .int .u8 n), (8, .pointer (some ⟨b8, 0, none⟩)), (9, .int .u8 ((64 - ln : Nat) : Int)), (10, .int .u8 j)] ρ ∧ KeepO (fun x => x = bx) w w' ∧ v8.heap.size ≤ w'.heap.size ∧ Hb w' bx (.cells (ic .u64 X5) T (0, 0)) ∧ Hb w' b3 (.cells (ic .u64 Y20) 61 (0, 0)) ∧ Hb w' b4 (.cells (ic .u64 [0, 0, 0, 0]) 61 (0, 0)) ∧ Hb w' b5 (.cells (ic .u8 p5) 369 (0, 0)) ∧ Hb w' b8 (.cells (ic .u64 U5) 423 (0, 0))) (q - n + 1) ?_ ?_
            · exact ⟨q - n + 1, X21, U19, p12, rfl, by omega, hDI, by have := hU21.len; omega, hU21.ty hXL, by omega, hUL19, by omega, hBy12, ⟨rfl, rfl, rfl, rfl, rfl, rfl, rfl, congrArg (Value.int .u8) (by omega), trivial⟩, hk21, by omega, hXb21, hb321, hb421, hb521, hb821⟩
            intro m ρ w5 hI
            obtain ⟨j, X5, U5, p5, hjm, hj8, hDj, hx5, hX5, hu5, hU5, hp5, hP5, hF5, hk5, hz5v, hXb5, hb35, hb45, hb55, hb85⟩ := hI
            refine W_env _ hF5 ?_
            have hz5 := hk5.sz
            have hp5a := by8_get hP5 0
            have hp5b := by8_get hP5 1
            have hp5c := by8_get hP5 2
            skip
            refine W_seq ?_
            refine W_seq ?_
            refine W_region rfl ?_
            refine WO_p (PS_move_int rfl) ?_
            refine WO_p (PS_gtr rfl rfl) ?_
            refine WO_nil ?_
            refine thn_normal ?_
            refine W_if rfl (fun hb17 => ?_) (fun hb17 => ?_)
            · have hb17p := hb17.h; try simp only [al_ete, al_dfn, Bool.not_eq_true', Bool.not_eq_false', al_ne, Bool.not_not, al_nn] at hb17p
              refine W_skip ?_
              refine thn_normal ?_
              refine W_seq ?_
              refine W_block ?_
              refine W_seq ?_
              refine W_region rfl ?_
              refine WO_p (PS_move_int rfl) ?_
              refine WO_p (PS_move_int rfl) ?_
              refine WO_p (PS_sub_u8n rfl rfl (by omega) (by omega)) ?_
              rw [show (j : Int) - 1 = ((j - 1 : Nat) : Int) by omega]
              refine WO_call Hvac.call379 (by rfl) (Ret.mono (roundU_ex b8 b3 n (j - 1) 423 61 U5 Y20 _ (Hb.mk (Hb.h (by repeat (first | assumption | exact Hb.newY _ _ | refine Hb.alloc ?_ | refine Hb.drew ?_ | refine Hb.ext (by assumption) ?_ | exact Hb.setSameL (by first | omega | (simp only [size_alloc, size_setB, size_drew]; omega)) | exact Hb.setSame (by assumption) | refine Hb.set (by first | omega | (simp only [size_alloc, size_setB, size_drew]; omega)) ?_ )))) (Hb.mk (Hb.h (by repeat (first | assumption | exact Hb.newY _ _ | refine Hb.alloc ?_ | refine Hb.drew ?_ | refine Hb.ext (by assumption) ?_ | exact Hb.setSameL (by first | omega | (simp only [size_alloc, size_setB, size_drew]; omega)) | exact Hb.setSame (by assumption) | refine Hb.set (by first | omega | (simp only [size_alloc, size_setB, size_drew]; omega)) ?_ )))) (by omega) hu5 hU5 hWd20 (by omega) (by omega) (by omega) hn4 (by omega) hYz20 hDU.2.2.2.2.1 (fun k hk => hDj.uz k (by omega)) (by rw [show j - 1 + 1 = j by omega]; exact hDj.lt)) ?_)
              rintro _ w6 ⟨q6, f6, z6, rfl, hq6, hf6, U6, hl6, hUL6, hXx6, hkk6, hrd6, hou6⟩
              have hU6 : UT b8 423 U5 _ w6 U6 := ⟨hl6, fun _ => hUL6, hXx6, hkk6⟩
              have hz6 := hU6.keep.sz
              try simp only [size_alloc, size_setB, size_drew] at hz6
              have hb36 := hU6.other (Hb.mk (Hb.h (by repeat (first | assumption | exact Hb.newY _ _ | refine Hb.alloc ?_ | refine Hb.drew ?_ | refine Hb.ext (by assumption) ?_ | exact Hb.setSameL (by first | omega | (simp only [size_alloc, size_setB, size_drew]; omega)) | exact Hb.setSame (by assumption) | refine Hb.set (by first | omega | (simp only [size_alloc, size_setB, size_drew]; omega)) ?_ ))) : Hb _ b3 (.cells (ic .u64 Y20) 61 (0, 0))) (by omega)
              have hb46 := hU6.other (Hb.mk (Hb.h (by repeat (first | assumption | exact Hb.newY _ _ | refine Hb.alloc ?_ | refine Hb.drew ?_ | refine Hb.ext (by assumption) ?_ | exact Hb.setSameL (by first | omega | (simp only [size_alloc, size_setB, size_drew]; omega)) | exact Hb.setSame (by assumption) | refine Hb.set (by first | omega | (simp only [size_alloc, size_setB, size_drew]; omega)) ?_ ))) : Hb _ b4 (.cells (ic .u64 [0, 0, 0, 0]) 61 (0, 0))) (by omega)
              have hb56 := hU6.other (Hb.mk (Hb.h (by repeat (first | assumption | exact Hb.newY _ _ | refine Hb.alloc ?_ | refine Hb.drew ?_ | refine Hb.ext (by assumption) ?_ | exact Hb.setSameL (by first | omega | (simp only [size_alloc, size_setB, size_drew]; omega)) | exact Hb.setSame (by assumption) | refine Hb.set (by first | omega | (simp only [size_alloc, size_setB, size_drew]; omega)) ?_ ))) : Hb _ b5 (.cells (ic .u8 p5) 369 (0, 0))) (by omega)
              have hXb6 := hU6.other (Hb.mk (Hb.h (by repeat (first | assumption | exact Hb.newY _ _ | refine Hb.alloc ?_ | refine Hb.drew ?_ | refine Hb.ext (by assumption) ?_ | exact Hb.setSameL (by first | omega | (simp only [size_alloc, size_setB, size_drew]; omega)) | exact Hb.setSame (by assumption) | refine Hb.set (by first | omega | (simp only [size_alloc, size_setB, size_drew]; omega)) ?_ ))) : Hb _ bx (.cells (ic .u64 X5) T (0, 0))) (by omega)
              have hb86 := hU6.hb
              have hk6 := hk5.ut hU6 (Or.inl (by omega))
              refine WO_p (PS_move_tuple rfl) ?_
              refine WO_p (PS_extract_int rfl rfl) ?_
              refine WO_p (PS_extract_int rfl rfl) ?_
              refine WO_p (PS_extract_bool rfl rfl) ?_
              refine WO_p (PS_assign_int rfl) ?_
              refine WO_p (PS_assign_int rfl) ?_
              refine WO_p (PS_assign_bool rfl) ?_
              refine WO_nil ?_
              refine thn_normal ?_
              refine W_seq ?_
              refine W_region rfl ?_
              refine WO_p (PS_move_ptr rfl) ?_
              refine WO_p (PS_move_int rfl) ?_
              refine WO_p (PS_sub_u8n rfl rfl (by omega) (by omega)) ?_
              refine WO_p (PS_move_int rfl) ?_
              refine WO_p (PS_nilCheck rfl) ?_
              refine WO_p (PS_indexA Hvac.runUnderlying63 Hvac.sizeOf26 rfl rfl (by omega) (by omega)) ?_
              refine WO_storeX (b := bx) (T := T) (L := X5) Hvac.sizeOf26 rfl rfl (Hb.mk (Hb.h (by repeat (first | assumption | exact Hb.newY _ _ | refine Hb.alloc ?_ | refine Hb.drew ?_ | refine Hb.ext (by assumption) ?_ | exact Hb.setSameL (by first | omega | (simp only [size_alloc, size_setB, size_drew]; omega)) | exact Hb.setSame (by assumption) | refine Hb.set (by first | omega | (simp only [size_alloc, size_setB, size_drew]; omega)) ?_ )))) (by omega) hq6 ?_
              intro w7 X7 hU7 hXe7
              have hz7 := hU7.keep.sz
              have hb37 := hU7.other (Hb.mk (Hb.h (by repeat (first | assumption | exact Hb.newY _ _ | refine Hb.alloc ?_ | refine Hb.drew ?_ | refine Hb.ext (by assumption) ?_ | exact Hb.setSameL (by first | omega | (simp only [size_alloc, size_setB, size_drew]; omega)) | exact Hb.setSame (by assumption) | refine Hb.set (by first | omega | (simp only [size_alloc, size_setB, size_drew]; omega)) ?_ ))) : Hb _ b3 (.cells (ic .u64 Y20) 61 (0, 0))) (by omega)
              have hb47 := hU7.other (Hb.mk (Hb.h (by repeat (first | assumption | exact Hb.newY _ _ | refine Hb.alloc ?_ | refine Hb.drew ?_ | refine Hb.ext (by assumption) ?_ | exact Hb.setSameL (by first | omega | (simp only [size_alloc, size_setB, size_drew]; omega)) | exact Hb.setSame (by assumption) | refine Hb.set (by first | omega | (simp only [size_alloc, size_setB, size_drew]; omega)) ?_ ))) : Hb _ b4 (.cells (ic .u64 [0, 0, 0, 0]) 61 (0, 0))) (by omega)
              have hb57 := hU7.other (Hb.mk (Hb.h (by repeat (first | assumption | exact Hb.newY _ _ | refine Hb.alloc ?_ | refine Hb.drew ?_ | refine Hb.ext (by assumption) ?_ | exact Hb.setSameL (by first | omega | (simp only [size_alloc, size_setB, size_drew]; omega)) | exact Hb.setSame (by assumption) | refine Hb.set (by first | omega | (simp only [size_alloc, size_setB, size_drew]; omega)) ?_ ))) : Hb _ b5 (.cells (ic .u8 p5) 369 (0, 0))) (by omega)
              have hb87 := hU7.other (Hb.mk (Hb.h (by repeat (first | assumption | exact Hb.newY _ _ | refine Hb.alloc ?_ | refine Hb.drew ?_ | refine Hb.ext (by assumption) ?_ | exact Hb.setSameL (by first | omega | (simp only [size_alloc, size_setB, size_drew]; omega)) | exact Hb.setSame (by assumption) | refine Hb.set (by first | omega | (simp only [size_alloc, size_setB, size_drew]; omega)) ?_ ))) : Hb _ b8 (.cells (ic .u64 U6) 423 (0, 0))) (by omega)
              have hXb7 := hU7.hb
              have hk7 := hk6.ut hU7 (Or.inr rfl)
              have hD7 : DivI (lvr X 0 8 * 2 ^ (64 - ln)) (lvr Y20 0 n) n (j - 1) 9 8 X7 U6 := by rw [hXe7, show 0 + ((j : Int) - 1).toNat * 1 = j - 1 by omega]; exact hDj.round hUL6 (by omega) (by omega) (by omega) (by omega) hVp (Int.le_of_lt (lvr_bd hUL20 0 n).2) hrd6.1 hrd6.2 hou6
              have hce1 : Ce (ic .u8 p5) (0 + 1) (.int .u8 (p5.getD 1 0)) := by have h := ce_ic (k := .u8) (l := p5) (i := 1) (by omega); simpa using h
              refine WO_nil ?_
              refine thn_normal ?_
              refine W_seq ?_
              refine W_region rfl ?_
              refine WO_p (PS_fieldAddr 1 Hvac.runUnderlying369 rfl Hvac.sizeOf5 rfl rfl) ?_
              refine WO_load (.int _ _) Hvac.isAgg5 rfl (Hb.h (by repeat (first | assumption | exact Hb.newY _ _ | refine Hb.alloc ?_ | refine Hb.drew ?_ | refine Hb.ext (by assumption) ?_ | exact Hb.setSameL (by first | omega | (simp only [size_alloc, size_setB, size_drew]; omega)) | exact Hb.setSame (by assumption) | refine Hb.set (by first | omega | (simp only [size_alloc, size_setB, size_drew]; omega)) ?_ ))) (Ce.h (by first | assumption | exact ⟨rfl⟩)) ?_
              refine WO_p (PS_move_int rfl) ?_
              refine WO_p (PS_add_u8w rfl rfl) ?_
              refine WO_p (PS_fieldAddr 1 Hvac.runUnderlying369 rfl Hvac.sizeOf5 rfl rfl) ?_
              refine WO_storeB (b := b5) (T := 369) (L := p5) Hvac.sizeOf5 rfl rfl (Hb.mk (Hb.h (by repeat (first | assumption | exact Hb.newY _ _ | refine Hb.alloc ?_ | refine Hb.drew ?_ | refine Hb.ext (by assumption) ?_ | exact Hb.setSameL (by first | omega | (simp only [size_alloc, size_setB, size_drew]; omega)) | exact Hb.setSame (by assumption) | refine Hb.set (by first | omega | (simp only [size_alloc, size_setB, size_drew]; omega)) ?_ )))) (by omega) (by omega) ?_
              intro w8 p8 hT8
              have hz8 := hT8.keep.sz
              have hBy8 : By8 p8 := hT8.ty hP5
              have hp8 : p8.length = 3 := hT8.len.trans hp5
              have hp8c := by8_get hBy8 2
              have hb38 := hT8.other (Hb.mk (Hb.h (by repeat (first | assumption | exact Hb.newY _ _ | refine Hb.alloc ?_ | refine Hb.drew ?_ | refine Hb.ext (by assumption) ?_ | exact Hb.setSameL (by first | omega | (simp only [size_alloc, size_setB, size_drew]; omega)) | exact Hb.setSame (by assumption) | refine Hb.set (by first | omega | (simp only [size_alloc, size_setB, size_drew]; omega)) ?_ ))) : Hb _ b3 (.cells (ic .u64 Y20) 61 (0, 0))) (by omega)
              have hb48 := hT8.other (Hb.mk (Hb.h (by repeat (first | assumption | exact Hb.newY _ _ | refine Hb.alloc ?_ | refine Hb.drew ?_ | refine Hb.ext (by assumption) ?_ | exact Hb.setSameL (by first | omega | (simp only [size_alloc, size_setB, size_drew]; omega)) | exact Hb.setSame (by assumption) | refine Hb.set (by first | omega | (simp only [size_alloc, size_setB, size_drew]; omega)) ?_ ))) : Hb _ b4 (.cells (ic .u64 [0, 0, 0, 0]) 61 (0, 0))) (by omega)
              have hb88 := hT8.other (Hb.mk (Hb.h (by repeat (first | assumption | exact Hb.newY _ _ | refine Hb.alloc ?_ | refine Hb.drew ?_ | refine Hb.ext (by assumption) ?_ | exact Hb.setSameL (by first | omega | (simp only [size_alloc, size_setB, size_drew]; omega)) | exact Hb.setSame (by assumption) | refine Hb.set (by first | omega | (simp only [size_alloc, size_setB, size_drew]; omega)) ?_ ))) : Hb _ b8 (.cells (ic .u64 U6) 423 (0, 0))) (by omega)
              have hbx8 := hT8.other (Hb.mk (Hb.h (by repeat (first | assumption | exact Hb.newY _ _ | refine Hb.alloc ?_ | refine Hb.drew ?_ | refine Hb.ext (by assumption) ?_ | exact Hb.setSameL (by first | omega | (simp only [size_alloc, size_setB, size_drew]; omega)) | exact Hb.setSame (by assumption) | refine Hb.set (by first | omega | (simp only [size_alloc, size_setB, size_drew]; omega)) ?_ ))) : Hb _ bx (.cells (ic .u64 X7) T (0, 0))) (by omega)
              have hb58 := hT8.hb
              have hk8 := hk7.bt hT8 (Or.inl (by omega))
              have hce2 : Ce (ic .u8 p8) (0 + 2) (.int .u8 (p8.getD 2 0)) := by have h := ce_ic (k := .u8) (l := p8) (i := 2) (by omega); simpa using h
              refine WO_nil ?_
              refine thn_normal ?_
              refine W_seq ?_
              refine W_region rfl ?_
              refine WO_p (PS_move_bool rfl) ?_
              refine WO_nil ?_
              refine thn_normal ?_
              refine W_if rfl (fun hb20 => ?_) (fun hb20 => ?_)
              · have hb20p := hb20.h; try simp only [al_ete, al_dfn, Bool.not_eq_true', Bool.not_eq_false', al_ne, Bool.not_not, al_nn] at hb20p
                refine W_region rfl ?_
                refine WO_p (PS_fieldAddr 2 Hvac.runUnderlying369 rfl Hvac.sizeOf5 rfl rfl) ?_
                refine WO_load (.int _ _) Hvac.isAgg5 rfl (Hb.h (by repeat (first | assumption | exact Hb.newY _ _ | refine Hb.alloc ?_ | refine Hb.drew ?_ | refine Hb.ext (by assumption) ?_ | exact Hb.setSameL (by first | omega | (simp only [size_alloc, size_setB, size_drew]; omega)) | exact Hb.setSame (by assumption) | refine Hb.set (by first | omega | (simp only [size_alloc, size_setB, size_drew]; omega)) ?_ ))) (Ce.h (by first | assumption | exact ⟨rfl⟩)) ?_
                refine WO_p (PS_add_u8w rfl rfl) ?_
                refine WO_p (PS_fieldAddr 2 Hvac.runUnderlying369 rfl Hvac.sizeOf5 rfl rfl) ?_
                refine WO_storeB (b := b5) (T := 369) (L := p8) Hvac.sizeOf5 rfl rfl (Hb.mk (Hb.h (by repeat (first | assumption | exact Hb.newY _ _ | refine Hb.alloc ?_ | refine Hb.drew ?_ | refine Hb.ext (by assumption) ?_ | exact Hb.setSameL (by first | omega | (simp only [size_alloc, size_setB, size_drew]; omega)) | exact Hb.setSame (by assumption) | refine Hb.set (by first | omega | (simp only [size_alloc, size_setB, size_drew]; omega)) ?_ )))) (by omega) (by omega) ?_
                intro w9 p9 hT9
                have hz9 := hT9.keep.sz
                have hBy9 : By8 p9 := hT9.ty hBy8
                have hp9 : p9.length = 3 := hT9.len.trans hp8
                have hb39 := hT9.other (Hb.mk (Hb.h (by repeat (first | assumption | exact Hb.newY _ _ | refine Hb.alloc ?_ | refine Hb.drew ?_ | refine Hb.ext (by assumption) ?_ | exact Hb.setSameL (by first | omega | (simp only [size_alloc, size_setB, size_drew]; omega)) | exact Hb.setSame (by assumption) | refine Hb.set (by first | omega | (simp only [size_alloc, size_setB, size_drew]; omega)) ?_ ))) : Hb _ b3 (.cells (ic .u64 Y20) 61 (0, 0))) (by omega)
                have hb49 := hT9.other (Hb.mk (Hb.h (by repeat (first | assumption | exact Hb.newY _ _ | refine Hb.alloc ?_ | refine Hb.drew ?_ | refine Hb.ext (by assumption) ?_ | exact Hb.setSameL (by first | omega | (simp only [size_alloc, size_setB, size_drew]; omega)) | exact Hb.setSame (by assumption) | refine Hb.set (by first | omega | (simp only [size_alloc, size_setB, size_drew]; omega)) ?_ ))) : Hb _ b4 (.cells (ic .u64 [0, 0, 0, 0]) 61 (0, 0))) (by omega)
                have hb89 := hT9.other (Hb.mk (Hb.h (by repeat (first | assumption | exact Hb.newY _ _ | refine Hb.alloc ?_ | refine Hb.drew ?_ | refine Hb.ext (by assumption) ?_ | exact Hb.setSameL (by first | omega | (simp only [size_alloc, size_setB, size_drew]; omega)) | exact Hb.setSame (by assumption) | refine Hb.set (by first | omega | (simp only [size_alloc, size_setB, size_drew]; omega)) ?_ ))) : Hb _ b8 (.cells (ic .u64 U6) 423 (0, 0))) (by omega)
                have hbx9 := hT9.other (Hb.mk (Hb.h (by repeat (first | assumption | exact Hb.newY _ _ | refine Hb.alloc ?_ | refine Hb.drew ?_ | refine Hb.ext (by assumption) ?_ | exact Hb.setSameL (by first | omega | (simp only [size_alloc, size_setB, size_drew]; omega)) | exact Hb.setSame (by assumption) | refine Hb.set (by first | omega | (simp only [size_alloc, size_setB, size_drew]; omega)) ?_ ))) : Hb _ bx (.cells (ic .u64 X7) T (0, 0))) (by omega)
                have hb59 := hT9.hb
                have hk9 := hk8.bt hT9 (Or.inl (by omega))
                refine WO_nil ?_
                refine inBlk_normal ?_
                refine thn_normal ?_
                refine W_region rfl ?_
                refine WO_p (PS_move_int rfl) ?_
                refine WO_p (PS_sub_u8n rfl rfl (by omega) (by omega)) ?_
                refine WO_p (PS_assign_int rfl) ?_
                refine WO_nil ?_
                refine thn_normal ?_
                exact ⟨m - 1, by omega, j - 1, X7, U6, p9, by omega, by omega, hD7, by have := hU7.len; omega, hU7.ty hX5, by have := hU6.len; omega, hUL6, hp9, hBy9, ⟨rfl, rfl, rfl, rfl, rfl, rfl, rfl, congrArg (Value.int .u8) (by omega), trivial⟩, hk9, by omega, hbx9, hb39, hb49, hb59, hb89⟩
              · have hb20p := hb20.h; try simp only [al_ete, al_dfn, Bool.not_eq_true', Bool.not_eq_false', al_ne, Bool.not_not, al_nn] at hb20p
                refine W_skip ?_
                refine inBlk_normal ?_
                refine thn_normal ?_
                refine W_region rfl ?_
                refine WO_p (PS_move_int rfl) ?_
                refine WO_p (PS_sub_u8n rfl rfl (by omega) (by omega)) ?_
                refine WO_p (PS_assign_int rfl) ?_
                refine WO_nil ?_
                refine thn_normal ?_
                exact ⟨m - 1, by omega, j - 1, X7, U6, p8, by omega, by omega, hD7, by have := hU7.len; omega, hU7.ty hX5, by have := hU6.len; omega, hUL6, hp8, hBy8, ⟨rfl, rfl, rfl, rfl, rfl, rfl, rfl, congrArg (Value.int .u8) (by omega), trivial⟩, hk8, by omega, hbx8, hb38, hb48, hb58, hb88⟩
            · have hb17p := hb17.h; try simp only [al_ete, al_dfn, Bool.not_eq_true', Bool.not_eq_false', al_ne, Bool.not_not, al_nn] at hb17p
              refine W_exit ?_
              refine thn_exit ?_
              refine thn_exit ?_
              refine inBlk_exit ?_
              refine thn_normal ?_
              refine W_seq ?_
              have hu5x : Xt (ic .u64 U5) 0 (0 + 4) (ic .u64 (U5.take 4)) := by have h := Xt.ic .u64 U5 0 4 (by omega); rwa [List.drop_zero] at h
              have hW30 : Wd (U5.take 4) := ⟨by simp [hu5], fun z hz => hU5 z (List.mem_of_mem_take hz)⟩
              have hW30l := hW30.1
              refine W_region rfl ?_
              refine WO_p (PS_slA_h Hvac.runUnderlying423 Hvac.sizeOf26 rfl rfl (by omega) (by omega) (by omega)) ?_
              refine WO_p (PS_arrayAt Hvac.runUnderlying61 rfl (by omega)) ?_
              refine WO_loadA _ Hvac.isAgg61 Hvac.sizeOf61 rfl (Hb.h (by repeat (first | assumption | exact Hb.newY _ _ | refine Hb.alloc ?_ | refine Hb.drew ?_ | refine Hb.ext (by assumption) ?_ | exact Hb.setSameL (by first | omega | (simp only [size_alloc, size_setB, size_drew]; omega)) | exact Hb.setSame (by assumption) | refine Hb.set (by first | omega | (simp only [size_alloc, size_setB, size_drew]; omega)) ?_ ))) (by first | omega | assumption | rfl | decide | exact Nat.le_refl _ | (simp only [size_ic, Value.cells]; omega) | (simp; omega) | simp) (Xt.h (by first | assumption | exact Xt.whole rfl rfl | exact Xt.whole rfl (by assumption) | exact Xt.whole rfl (by simp only [size_ic, Value.cells]; omega) | exact ⟨rfl⟩)) ?_
              refine WO_storeW Hvac.sizeOf61 rfl (v := .agg _) rfl (Hb.h (by repeat (first | assumption | exact Hb.newY _ _ | refine Hb.alloc ?_ | refine Hb.drew ?_ | refine Hb.ext (by assumption) ?_ | exact Hb.setSameL (by first | omega | (simp only [size_alloc, size_setB, size_drew]; omega)) | exact Hb.setSame (by assumption) | refine Hb.set (by first | omega | (simp only [size_alloc, size_setB, size_drew]; omega)) ?_ ))) rfl (by first | rfl | (simp only [size_ic, Value.cells]; omega)) (by first | rfl | (simp only [size_ic]; omega)) oneCell_ic ?_
              change WO _ _ _ _ _ (setB _ _ (.cells (ic .u64 (U5.take 4)) 61 (0, 0)))
              refine WO_nil ?_
              refine thn_normal ?_
              refine W_seq ?_
              refine W_region rfl ?_
              refine WO_p (PS_slA Hvac.runUnderlying61 Hvac.sizeOf26 rfl (by omega)) ?_
              refine WO_p (PS_move_int rfl) ?_
              refine WO_call Hvac.call367 (by rfl) (Ret.mono (shiftDown_ex b4 0 4 _ 61 (U5.take 4) (64 - ln) _ (Hb.mk (Hb.h (by repeat (first | assumption | exact Hb.newY _ _ | refine Hb.alloc ?_ | refine Hb.drew ?_ | refine Hb.ext (by assumption) ?_ | exact Hb.setSameL (by first | omega | (simp only [size_alloc, size_setB, size_drew]; omega)) | exact Hb.setSame (by assumption) | refine Hb.set (by first | omega | (simp only [size_alloc, size_setB, size_drew]; omega)) ?_ )))) hW30.2 (by omega) (by omega) (by omega)) ?_)
              rintro _ w31 ⟨rfl, R32, hl31, hUL31, hXx31, hkk31, hlv31, hou31⟩
              have hU31 : UT b4 61 (U5.take 4) _ w31 R32 := ⟨hl31, fun _ => hUL31, hXx31, hkk31⟩
              have hz31 := hU31.keep.sz
              have hWd31 : Wd R32 := ⟨by rw [hU31.len]; exact hW30.1, hUL31⟩
              have hWd31l := hWd31.1
              have hb531 := hU31.other (Hb.mk (Hb.h (by repeat (first | assumption | exact Hb.newY _ _ | refine Hb.alloc ?_ | refine Hb.drew ?_ | refine Hb.ext (by assumption) ?_ | exact Hb.setSameL (by first | omega | (simp only [size_alloc, size_setB, size_drew]; omega)) | exact Hb.setSame (by assumption) | refine Hb.set (by first | omega | (simp only [size_alloc, size_setB, size_drew]; omega)) ?_ ))) : Hb _ b5 (.cells (ic .u8 p5) 369 (0, 0))) (by omega)
              have hbx31 := hU31.other (Hb.mk (Hb.h (by repeat (first | assumption | exact Hb.newY _ _ | refine Hb.alloc ?_ | refine Hb.drew ?_ | refine Hb.ext (by assumption) ?_ | exact Hb.setSameL (by first | omega | (simp only [size_alloc, size_setB, size_drew]; omega)) | exact Hb.setSame (by assumption) | refine Hb.set (by first | omega | (simp only [size_alloc, size_setB, size_drew]; omega)) ?_ ))) : Hb _ bx (.cells (ic .u64 X5) T (0, 0))) (by omega)
              have hb431 := hU31.hb
              have hk31 := (hk5.setB (x := b4) (fun h => by omega) _).ut hU31 (Or.inl (by omega))
              refine WO_nil ?_
              refine thn_normal ?_
              refine W_seq ?_
              have hDP : DivP X Y X5 R32 := divp_long (V := lvr Y20 0 n) hY hU5 hu5 hn0 hn4 hln hzz hnz2 (by rw [hDU.2.2.1, ← hDU.2.1, wv_lvr hY]) (by rw [show j = 0 by omega] at hDj; exact hDj) hWd31 hlv31
              refine W_drawT2 [false, false, true, false] (RetS b4 b5 R32 p5) hmix (by kernel_rfl) rfl ⟨Hb.mk (Hb.h (by repeat (first | assumption | exact Hb.newY _ _ | refine Hb.alloc ?_ | refine Hb.drew ?_ | refine Hb.ext (by assumption) ?_ | exact Hb.setSameL (by first | omega | (simp only [size_alloc, size_setB, size_drew]; omega)) | exact Hb.setSame (by assumption) | refine Hb.set (by first | omega | (simp only [size_alloc, size_setB, size_drew]; omega)) ?_ ))), Hb.mk (Hb.h (by repeat (first | assumption | exact Hb.newY _ _ | refine Hb.alloc ?_ | refine Hb.drew ?_ | refine Hb.ext (by assumption) ?_ | exact Hb.setSameL (by first | omega | (simp only [size_alloc, size_setB, size_drew]; omega)) | exact Hb.setSame (by assumption) | refine Hb.set (by first | omega | (simp only [size_alloc, size_setB, size_drew]; omega)) ?_ )))⟩ ?_
              intro hSt
              have hSt4 := hSt.h4
              have hSt5 := hSt.h5
              have hSt5l := hSt5.lt
              have hSt4l := hSt4.lt
              try simp only [size_drew] at hSt5l hSt4l
              refine WH_loadA0 (ic .u64 R32) Hvac.isAgg61 Hvac.sizeOf61 rfl (fun w' hS => row_at hS.h4 (by first | omega | assumption | rfl | decide | exact Nat.le_refl _ | (simp only [size_ic, Value.cells]; omega) | (simp; omega) | simp)) ?_
              refine WH_loadA0 (ic .u8 p5) Hvac.isAgg369 Hvac.sizeOf369 rfl (fun w' hS => row_at hS.h5 (by first | omega | assumption | rfl | decide | exact Nat.le_refl _ | (simp only [size_ic, Value.cells]; omega) | (simp; omega) | simp)) ?_
              first | refine WH_storeW Hvac.sizeOf61 rfl (v := .agg _) rfl (Hb.h (by repeat (first | assumption | exact Hb.newY _ _ | refine Hb.alloc ?_ | refine Hb.drew ?_ | refine Hb.ext (by assumption) ?_ | exact Hb.setSameL (by first | omega | (simp only [size_alloc, size_setB, size_drew]; omega)) | exact Hb.setSame (by assumption) | refine Hb.set (by first | omega | (simp only [size_alloc, size_setB, size_drew]; omega)) ?_ ))) rfl (by first | rfl | (simp only [size_ic, Value.cells]; omega)) (by first | rfl | (simp only [size_ic]; omega)) oneCell_ic (fun _ => ⟨Hb.setSame hSt4, Hb.set (by omega) hSt5⟩) ?_ | refine WH_storeW Hvac.sizeOf369 rfl (v := .agg _) rfl (Hb.h (by repeat (first | assumption | exact Hb.newY _ _ | refine Hb.alloc ?_ | refine Hb.drew ?_ | refine Hb.ext (by assumption) ?_ | exact Hb.setSameL (by first | omega | (simp only [size_alloc, size_setB, size_drew]; omega)) | exact Hb.setSame (by assumption) | refine Hb.set (by first | omega | (simp only [size_alloc, size_setB, size_drew]; omega)) ?_ ))) rfl (by first | rfl | (simp only [size_ic, Value.cells]; omega)) (by first | rfl | (simp only [size_ic]; omega)) oneCell_ic (fun h => by cases h) ?_
              first | refine WH_storeW Hvac.sizeOf61 rfl (v := .agg _) rfl (Hb.h (by repeat (first | assumption | exact Hb.newY _ _ | refine Hb.alloc ?_ | refine Hb.drew ?_ | refine Hb.ext (by assumption) ?_ | exact Hb.setSameL (by first | omega | (simp only [size_alloc, size_setB, size_drew]; omega)) | exact Hb.setSame (by assumption) | refine Hb.set (by first | omega | (simp only [size_alloc, size_setB, size_drew]; omega)) ?_ ))) rfl (by first | rfl | (simp only [size_ic, Value.cells]; omega)) (by first | rfl | (simp only [size_ic]; omega)) oneCell_ic (fun _ => ⟨Hb.setSame hSt4, Hb.set (by omega) hSt5⟩) ?_ | refine WH_storeW Hvac.sizeOf369 rfl (v := .agg _) rfl (Hb.h (by repeat (first | assumption | exact Hb.newY _ _ | refine Hb.alloc ?_ | refine Hb.drew ?_ | refine Hb.ext (by assumption) ?_ | exact Hb.setSameL (by first | omega | (simp only [size_alloc, size_setB, size_drew]; omega)) | exact Hb.setSame (by assumption) | refine Hb.set (by first | omega | (simp only [size_alloc, size_setB, size_drew]; omega)) ?_ ))) rfl (by first | rfl | (simp only [size_ic, Value.cells]; omega)) (by first | rfl | (simp only [size_ic]; omega)) oneCell_ic (fun h => by cases h) ?_
              refine WH_nil ?_
              refine thn_normal ?_
              refine W_ret ?_
              refine bodyQ_cell2 Hvac.results371 rfl rfl Hvac.isAgg61 Hvac.sizeOf61 Hvac.isAgg369 Hvac.sizeOf369 rfl (Hb.h (by repeat (first | assumption | exact Hb.newY _ _ | refine Hb.alloc ?_ | refine Hb.drew ?_ | refine Hb.ext (by assumption) ?_ | exact Hb.setSameL (by first | omega | (simp only [size_alloc, size_setB, size_drew]; omega)) | exact Hb.setSame (by assumption) | refine Hb.set (by first | omega | (simp only [size_alloc, size_setB, size_drew]; omega)) ?_ ))) (by first | omega | assumption | rfl | decide | exact Nat.le_refl _ | (simp only [size_ic, Value.cells]; omega) | (simp; omega) | simp) rfl (Hb.h (by repeat (first | assumption | exact Hb.newY _ _ | refine Hb.alloc ?_ | refine Hb.drew ?_ | refine Hb.ext (by assumption) ?_ | exact Hb.setSameL (by first | omega | (simp only [size_alloc, size_setB, size_drew]; omega)) | exact Hb.setSame (by assumption) | refine Hb.set (by first | omega | (simp only [size_alloc, size_setB, size_drew]; omega)) ?_ ))) (by first | omega | assumption | rfl | decide | exact Nat.le_refl _ | (simp only [size_ic, Value.cells]; omega) | (simp; omega) | simp) ?_
              exact ⟨_, _, X5, rfl, hWd31, hp5, ⟨hx5.trans hxl.symm, hX5, Hb.mk (Hb.h (by repeat (first | assumption | exact Hb.newY _ _ | refine Hb.alloc ?_ | refine Hb.drew ?_ | refine Hb.ext (by assumption) ?_ | exact Hb.setSameL (by first | omega | (simp only [size_alloc, size_setB, size_drew]; omega)) | exact Hb.setSame (by assumption) | refine Hb.set (by first | omega | (simp only [size_alloc, size_setB, size_drew]; omega)) ?_ ))), ((KeepO.extR hk31 (Ext.drew (Ext.refl _))).setB (fun h => by omega) _).setB (fun h => by omega) _⟩, hDP⟩
    · have hb5p := hb5.h; try simp only [al_ete, al_dfn, Bool.not_eq_true', Bool.not_eq_false', al_ne, Bool.not_not, al_nn] at hb5p
      refine WO_guardF rfl rfl hb5.h ?_
      refine WO_guardF rfl rfl hb5.h ?_
      refine WO_guardF rfl rfl hb5.h ?_
      refine WO_guardF rfl rfl hb5.h ?_
      refine WO_guardF rfl rfl hb5.h ?_
      refine WO_guardF rfl rfl hb5.h ?_
      refine WO_guardF rfl rfl hb5.h ?_
      refine WO_p (PS_pickF rfl hb5.h rfl) ?_
      refine WO_nil ?_
      refine thn_normal ?_
      refine W_condF rfl rfl ?_
      refine W_exit ?_
      refine thn_exit ?_
      refine thn_exit ?_
      refine inBlk_exit ?_
      refine thn_normal ?_
      refine W_seq ?_
      refine W_seq ?_
      refine W_region rfl ?_
      refine WO_p (PS_move_int rfl) ?_
      refine WO_p (PS_move_int rfl) ?_
      refine WO_p (PS_lss rfl rfl) ?_
      refine WO_nil ?_
      refine thn_normal ?_
      refine W_if rfl (fun hb23 => ?_) (fun hb23 => ?_)
      · have hb23p := hb23.h; try simp only [al_ete, al_dfn, Bool.not_eq_true', Bool.not_eq_false', al_ne, Bool.not_not, al_nn] at hb23p
        refine W_seq ?_
        refine W_region rfl ?_
        refine WO_p (PS_move_ptr rfl) ?_
        refine WO_p (PS_nilCheck rfl) ?_
        refine WO_p (PS_slA_h Hvac.runUnderlying63 Hvac.sizeOf26 rfl rfl (by omega) (by omega) (by omega)) ?_
        refine WO_p (PS_arrayAt Hvac.runUnderlying61 rfl (by omega)) ?_
        refine WO_loadA _ Hvac.isAgg61 Hvac.sizeOf61 rfl (Hb.h (by repeat (first | assumption | exact Hb.newY _ _ | refine Hb.alloc ?_ | refine Hb.drew ?_ | refine Hb.ext (by assumption) ?_ | exact Hb.setSameL (by first | omega | (simp only [size_alloc, size_setB, size_drew]; omega)) | exact Hb.setSame (by assumption) | refine Hb.set (by first | omega | (simp only [size_alloc, size_setB, size_drew]; omega)) ?_ ))) (by first | omega | assumption | rfl | decide | exact Nat.le_refl _ | (simp only [size_ic, Value.cells]; omega) | (simp; omega) | simp) (Xt.h (by first | assumption | exact Xt.whole rfl rfl | exact Xt.whole rfl (by assumption) | exact Xt.whole rfl (by simp only [size_ic, Value.cells]; omega) | exact ⟨rfl⟩)) ?_
        refine WO_storeW Hvac.sizeOf61 rfl (v := .agg _) rfl (Hb.h (by repeat (first | assumption | exact Hb.newY _ _ | refine Hb.alloc ?_ | refine Hb.drew ?_ | refine Hb.ext (by assumption) ?_ | exact Hb.setSameL (by first | omega | (simp only [size_alloc, size_setB, size_drew]; omega)) | exact Hb.setSame (by assumption) | refine Hb.set (by first | omega | (simp only [size_alloc, size_setB, size_drew]; omega)) ?_ ))) rfl (by first | rfl | (simp only [size_ic, Value.cells]; omega)) (by first | rfl | (simp only [size_ic]; omega)) oneCell_ic ?_
        change WO _ _ _ _ _ (setB _ _ (.cells (ic .u64 (X.take 4)) 61 (0, 0)))
        refine WO_nil ?_
        refine thn_normal ?_
        refine W_seq ?_
        refine W_region rfl ?_
        refine WO_p (PS_move_ptr rfl) ?_
        refine WO_p (PS_nilCheck rfl) ?_
        refine WO_p (PS_slA Hvac.runUnderlying63 Hvac.sizeOf26 rfl (by omega)) ?_
        refine WO_clearX (b := bx) (T := T) (L := X) Hvac.runUnderlying280 Hvac.zeroValue26 rfl (Hb.mk (Hb.h (by repeat (first | assumption | exact Hb.newY _ _ | refine Hb.alloc ?_ | refine Hb.drew ?_ | refine Hb.ext (by assumption) ?_ | exact Hb.setSameL (by first | omega | (simp only [size_alloc, size_setB, size_drew]; omega)) | exact Hb.setSame (by assumption) | refine Hb.set (by first | omega | (simp only [size_alloc, size_setB, size_drew]; omega)) ?_ )))) (by omega) (by omega) ?_
        intro w10 X10 hU10 hXe10
        have hXz10 : ∀ k, X10.getD k 0 = 0 := fun k => by rw [hXe10]; exact getD_rep _ _
        have hz10 := hU10.keep.sz
        try simp only [size_alloc, size_setB, size_drew] at hz10
        have hb410 := hU10.other (Hb.mk (Hb.h (by repeat (first | assumption | exact Hb.newY _ _ | refine Hb.alloc ?_ | refine Hb.drew ?_ | refine Hb.ext (by assumption) ?_ | exact Hb.setSameL (by first | omega | (simp only [size_alloc, size_setB, size_drew]; omega)) | exact Hb.setSame (by assumption) | refine Hb.set (by first | omega | (simp only [size_alloc, size_setB, size_drew]; omega)) ?_ ))) : Hb _ b4 (.cells (ic .u64 (X.take 4)) 61 (0, 0))) (by omega)
        have hb510 := hU10.other (Hb.mk (Hb.h (by repeat (first | assumption | exact Hb.newY _ _ | refine Hb.alloc ?_ | refine Hb.drew ?_ | refine Hb.ext (by assumption) ?_ | exact Hb.setSameL (by first | omega | (simp only [size_alloc, size_setB, size_drew]; omega)) | exact Hb.setSame (by assumption) | refine Hb.set (by first | omega | (simp only [size_alloc, size_setB, size_drew]; omega)) ?_ ))) : Hb _ b5 (.cells (ic .u8 [0, 0, 0]) 369 (0, 0))) (by omega)
        have hk10 : KeepO (fun x => x = bx) w w10 := KeepO.ut (hk1.setB (x := b4) (fun h => by omega) _) hU10 (Or.inr rfl)
        have hXb10 := hU10.hb
        refine WO_nil ?_
        refine thn_normal ?_
        refine W_seq ?_
        have hDP : DivP X Y X10 (X.take 4) := divp_small hXL hxl hY hn0 hn4 hzz hnz2 (by omega) hzx hXz10 hxW
        refine W_drawT2 [false, false, true, false] (RetS b4 b5 (X.take 4) [0, 0, 0]) hmix (by kernel_rfl) rfl ⟨Hb.mk (Hb.h (by repeat (first | assumption | exact Hb.newY _ _ | refine Hb.alloc ?_ | refine Hb.drew ?_ | refine Hb.ext (by assumption) ?_ | exact Hb.setSameL (by first | omega | (simp only [size_alloc, size_setB, size_drew]; omega)) | exact Hb.setSame (by assumption) | refine Hb.set (by first | omega | (simp only [size_alloc, size_setB, size_drew]; omega)) ?_ ))), Hb.mk (Hb.h (by repeat (first | assumption | exact Hb.newY _ _ | refine Hb.alloc ?_ | refine Hb.drew ?_ | refine Hb.ext (by assumption) ?_ | exact Hb.setSameL (by first | omega | (simp only [size_alloc, size_setB, size_drew]; omega)) | exact Hb.setSame (by assumption) | refine Hb.set (by first | omega | (simp only [size_alloc, size_setB, size_drew]; omega)) ?_ )))⟩ ?_
        intro hSt
        have hSt4 := hSt.h4
        have hSt5 := hSt.h5
        have hSt5l := hSt5.lt
        have hSt4l := hSt4.lt
        try simp only [size_drew] at hSt5l hSt4l
        refine WH_loadA0 (ic .u64 (X.take 4)) Hvac.isAgg61 Hvac.sizeOf61 rfl (fun w' hS => row_at hS.h4 (by first | omega | assumption | rfl | decide | exact Nat.le_refl _ | (simp only [size_ic, Value.cells]; omega) | (simp; omega) | simp)) ?_
        refine WH_loadA0 (ic .u8 [0, 0, 0]) Hvac.isAgg369 Hvac.sizeOf369 rfl (fun w' hS => row_at hS.h5 (by first | omega | assumption | rfl | decide | exact Nat.le_refl _ | (simp only [size_ic, Value.cells]; omega) | (simp; omega) | simp)) ?_
        first | refine WH_storeW Hvac.sizeOf61 rfl (v := .agg _) rfl (Hb.h (by repeat (first | assumption | exact Hb.newY _ _ | refine Hb.alloc ?_ | refine Hb.drew ?_ | refine Hb.ext (by assumption) ?_ | exact Hb.setSameL (by first | omega | (simp only [size_alloc, size_setB, size_drew]; omega)) | exact Hb.setSame (by assumption) | refine Hb.set (by first | omega | (simp only [size_alloc, size_setB, size_drew]; omega)) ?_ ))) rfl (by first | rfl | (simp only [size_ic, Value.cells]; omega)) (by first | rfl | (simp only [size_ic]; omega)) oneCell_ic (fun _ => ⟨Hb.setSame hSt4, Hb.set (by omega) hSt5⟩) ?_ | refine WH_storeW Hvac.sizeOf369 rfl (v := .agg _) rfl (Hb.h (by repeat (first | assumption | exact Hb.newY _ _ | refine Hb.alloc ?_ | refine Hb.drew ?_ | refine Hb.ext (by assumption) ?_ | exact Hb.setSameL (by first | omega | (simp only [size_alloc, size_setB, size_drew]; omega)) | exact Hb.setSame (by assumption) | refine Hb.set (by first | omega | (simp only [size_alloc, size_setB, size_drew]; omega)) ?_ ))) rfl (by first | rfl | (simp only [size_ic, Value.cells]; omega)) (by first | rfl | (simp only [size_ic]; omega)) oneCell_ic (fun h => by cases h) ?_
        first | refine WH_storeW Hvac.sizeOf61 rfl (v := .agg _) rfl (Hb.h (by repeat (first | assumption | exact Hb.newY _ _ | refine Hb.alloc ?_ | refine Hb.drew ?_ | refine Hb.ext (by assumption) ?_ | exact Hb.setSameL (by first | omega | (simp only [size_alloc, size_setB, size_drew]; omega)) | exact Hb.setSame (by assumption) | refine Hb.set (by first | omega | (simp only [size_alloc, size_setB, size_drew]; omega)) ?_ ))) rfl (by first | rfl | (simp only [size_ic, Value.cells]; omega)) (by first | rfl | (simp only [size_ic]; omega)) oneCell_ic (fun _ => ⟨Hb.setSame hSt4, Hb.set (by omega) hSt5⟩) ?_ | refine WH_storeW Hvac.sizeOf369 rfl (v := .agg _) rfl (Hb.h (by repeat (first | assumption | exact Hb.newY _ _ | refine Hb.alloc ?_ | refine Hb.drew ?_ | refine Hb.ext (by assumption) ?_ | exact Hb.setSameL (by first | omega | (simp only [size_alloc, size_setB, size_drew]; omega)) | exact Hb.setSame (by assumption) | refine Hb.set (by first | omega | (simp only [size_alloc, size_setB, size_drew]; omega)) ?_ ))) rfl (by first | rfl | (simp only [size_ic, Value.cells]; omega)) (by first | rfl | (simp only [size_ic]; omega)) oneCell_ic (fun h => by cases h) ?_
        refine WH_nil ?_
        refine thn_normal ?_
        refine W_ret ?_
        refine thn_ret ?_
        refine bodyQ_cell2 Hvac.results371 rfl rfl Hvac.isAgg61 Hvac.sizeOf61 Hvac.isAgg369 Hvac.sizeOf369 rfl (Hb.h (by repeat (first | assumption | exact Hb.newY _ _ | refine Hb.alloc ?_ | refine Hb.drew ?_ | refine Hb.ext (by assumption) ?_ | exact Hb.setSameL (by first | omega | (simp only [size_alloc, size_setB, size_drew]; omega)) | exact Hb.setSame (by assumption) | refine Hb.set (by first | omega | (simp only [size_alloc, size_setB, size_drew]; omega)) ?_ ))) (by first | omega | assumption | rfl | decide | exact Nat.le_refl _ | (simp only [size_ic, Value.cells]; omega) | (simp; omega) | simp) rfl (Hb.h (by repeat (first | assumption | exact Hb.newY _ _ | refine Hb.alloc ?_ | refine Hb.drew ?_ | refine Hb.ext (by assumption) ?_ | exact Hb.setSameL (by first | omega | (simp only [size_alloc, size_setB, size_drew]; omega)) | exact Hb.setSame (by assumption) | refine Hb.set (by first | omega | (simp only [size_alloc, size_setB, size_drew]; omega)) ?_ ))) (by first | omega | assumption | rfl | decide | exact Nat.le_refl _ | (simp only [size_ic, Value.cells]; omega) | (simp; omega) | simp) ?_
        exact ⟨_, _, X10, rfl, hxW, rfl, ⟨hU10.len, hU10.ty hXL, Hb.mk (Hb.h (by repeat (first | assumption | exact Hb.newY _ _ | refine Hb.alloc ?_ | refine Hb.drew ?_ | refine Hb.ext (by assumption) ?_ | exact Hb.setSameL (by first | omega | (simp only [size_alloc, size_setB, size_drew]; omega)) | exact Hb.setSame (by assumption) | refine Hb.set (by first | omega | (simp only [size_alloc, size_setB, size_drew]; omega)) ?_ ))), ((KeepO.extR hk10 (Ext.drew (Ext.refl _))).setB (fun h => by omega) _).setB (fun h => by omega) _⟩, hDP⟩
      · have hb23p := hb23.h; try simp only [al_ete, al_dfn, Bool.not_eq_true', Bool.not_eq_false', al_ne, Bool.not_not, al_nn] at hb23p
        refine W_skip ?_
        refine thn_normal ?_
        refine W_seq ?_
        have hnq : n ≤ q := by omega
        refine W_region rfl ?_
        refine WO_p (PS_move_int rfl) ?_
        refine WO_p (PS_move_int rfl) ?_
        refine WO_p (PS_sub_u8n rfl rfl (by omega) (by omega)) ?_
        refine WO_p (PS_add_u8n rfl rfl (by omega) (by omega)) ?_
        refine WO_p (PS_fieldAddr 0 Hvac.runUnderlying369 rfl Hvac.sizeOf5 rfl rfl) ?_
        refine WO_storeBx (b := b5) (T := 369) (L := [0, 0, 0]) Hvac.sizeOf5 rfl rfl (Hb.mk (Hb.h (by repeat (first | assumption | exact Hb.newY _ _ | refine Hb.alloc ?_ | refine Hb.drew ?_ | refine Hb.ext (by assumption) ?_ | exact Hb.setSameL (by first | omega | (simp only [size_alloc, size_setB, size_drew]; omega)) | exact Hb.setSame (by assumption) | refine Hb.set (by first | omega | (simp only [size_alloc, size_setB, size_drew]; omega)) ?_ )))) (by decide) (by omega) ?_
        intro w12 hT12
        obtain ⟨p12, hpe⟩ : ∃ p12, ([0, 0, 0] : List Int).set (0 + 0) ((q : Int) - n + 1) = p12 := ⟨_, rfl⟩
        rw [hpe] at hT12
        have hce0 : Ce (ic .u8 p12) (0 + 0) (.int .u8 ((q : Int) - n + 1)) := by rw [← hpe]; exact ⟨rfl⟩
        have hz12 := hT12.keep.sz
        have hBy12 : By8 p12 := hT12.ty (by_zero 3)
        have hp12 : p12.length = 3 := hT12.len
        have hb312 := hT12.other (Hb.mk (Hb.h (by repeat (first | assumption | exact Hb.newY _ _ | refine Hb.alloc ?_ | refine Hb.drew ?_ | refine Hb.ext (by assumption) ?_ | exact Hb.setSameL (by first | omega | (simp only [size_alloc, size_setB, size_drew]; omega)) | exact Hb.setSame (by assumption) | refine Hb.set (by first | omega | (simp only [size_alloc, size_setB, size_drew]; omega)) ?_ ))) : Hb _ b3 (.cells (ic .u64 Y) 61 (0, 0))) (by omega)
        have hb412 := hT12.other (Hb.mk (Hb.h (by repeat (first | assumption | exact Hb.newY _ _ | refine Hb.alloc ?_ | refine Hb.drew ?_ | refine Hb.ext (by assumption) ?_ | exact Hb.setSameL (by first | omega | (simp only [size_alloc, size_setB, size_drew]; omega)) | exact Hb.setSame (by assumption) | refine Hb.set (by first | omega | (simp only [size_alloc, size_setB, size_drew]; omega)) ?_ ))) : Hb _ b4 (.cells (ic .u64 [0, 0, 0, 0]) 61 (0, 0))) (by omega)
        have hXb12 := hT12.other (Hb.mk (Hb.h (by repeat (first | assumption | exact Hb.newY _ _ | refine Hb.alloc ?_ | refine Hb.drew ?_ | refine Hb.ext (by assumption) ?_ | exact Hb.setSameL (by first | omega | (simp only [size_alloc, size_setB, size_drew]; omega)) | exact Hb.setSame (by assumption) | refine Hb.set (by first | omega | (simp only [size_alloc, size_setB, size_drew]; omega)) ?_ ))) : Hb _ bx (.cells (ic .u64 X) T (0, 0))) (by omega)
        have hb512 := hT12.hb
        have hk12 := hk1.bt hT12 (Or.inl (by omega))
        refine WO_nil ?_
        refine thn_normal ?_
        refine W_seq ?_
        refine W_seq ?_
        refine W_region rfl ?_
        refine WO_p (PS_move_int rfl) ?_
        refine WO_p (PS_eql rfl rfl) ?_
        refine WO_nil ?_
        refine thn_normal ?_
        refine W_if rfl (fun hb25 => ?_) (fun hb25 => ?_)
        · have hb25p := hb25.h; try simp only [al_ete, al_dfn, Bool.not_eq_true', Bool.not_eq_false', al_ne, Bool.not_not, al_nn] at hb25p
          have hY0 : 0 < Y.getD 0 0 := by have h1 := hYg 0; rw [show n - 1 = 0 by omega] at hnz2; omega
          refine W_seq ?_
          refine W_region rfl ?_
          refine WO_p (PS_move_ptr rfl) ?_
          refine WO_p (PS_move_int rfl) ?_
          refine WO_p (PS_indexA Hvac.runUnderlying61 Hvac.sizeOf26 rfl rfl (by omega) (by omega)) ?_
          refine WO_load (.int _ _) Hvac.isAgg26 rfl (Hb.h (by repeat (first | assumption | exact Hb.newY _ _ | refine Hb.alloc ?_ | refine Hb.drew ?_ | refine Hb.ext (by assumption) ?_ | exact Hb.setSameL (by first | omega | (simp only [size_alloc, size_setB, size_drew]; omega)) | exact Hb.setSame (by assumption) | refine Hb.set (by first | omega | (simp only [size_alloc, size_setB, size_drew]; omega)) ?_ ))) (Ce.h (by first | assumption | exact ⟨rfl⟩)) ?_
          refine WO_call Hvac.call378 (by rfl) (Ret.mono (short_ex bx q T X _ _ (Hb.mk (Hb.h (by repeat (first | assumption | exact Hb.newY _ _ | refine Hb.alloc ?_ | refine Hb.drew ?_ | refine Hb.ext (by assumption) ?_ | exact Hb.setSameL (by first | omega | (simp only [size_alloc, size_setB, size_drew]; omega)) | exact Hb.setSame (by assumption) | refine Hb.set (by first | omega | (simp only [size_alloc, size_setB, size_drew]; omega)) ?_ )))) hXL hxl (by omega) ⟨hY0, (hYg 0).2⟩) ?_)
          rintro _ w14 ⟨r14, rfl, hr14q, X14, hl14, hUL14, hXx14, hkk14, hlv14, hou14⟩
          have hU14 : UT bx T X _ w14 X14 := ⟨hl14, fun _ => hUL14, hXx14, hkk14⟩
          have hr14 : 0 ≤ r14 ∧ r14 ≤ 18446744073709551615 := ⟨hr14q.1, by have := (hYg 0).2; omega⟩
          have hz14 := hU14.keep.sz
          have hb414 := hU14.other (Hb.mk (Hb.h (by repeat (first | assumption | exact Hb.newY _ _ | refine Hb.alloc ?_ | refine Hb.drew ?_ | refine Hb.ext (by assumption) ?_ | exact Hb.setSameL (by first | omega | (simp only [size_alloc, size_setB, size_drew]; omega)) | exact Hb.setSame (by assumption) | refine Hb.set (by first | omega | (simp only [size_alloc, size_setB, size_drew]; omega)) ?_ ))) : Hb _ b4 (.cells (ic .u64 [0, 0, 0, 0]) 61 (0, 0))) (by omega)
          have hb514 := hU14.other (Hb.mk (Hb.h (by repeat (first | assumption | exact Hb.newY _ _ | refine Hb.alloc ?_ | refine Hb.drew ?_ | refine Hb.ext (by assumption) ?_ | exact Hb.setSameL (by first | omega | (simp only [size_alloc, size_setB, size_drew]; omega)) | exact Hb.setSame (by assumption) | refine Hb.set (by first | omega | (simp only [size_alloc, size_setB, size_drew]; omega)) ?_ ))) : Hb _ b5 (.cells (ic .u8 p12) 369 (0, 0))) (by omega)
          have hk14 := hk12.ut hU14 (Or.inr rfl)
          have hXb14 := hU14.hb
          refine WO_p (PS_indexA Hvac.runUnderlying61 Hvac.sizeOf26 rfl rfl (by omega) (by omega)) ?_
          refine WO_storeX (b := b4) (T := 61) (L := [0, 0, 0, 0]) Hvac.sizeOf26 rfl rfl (Hb.mk (Hb.h (by repeat (first | assumption | exact Hb.newY _ _ | refine Hb.alloc ?_ | refine Hb.drew ?_ | refine Hb.ext (by assumption) ?_ | exact Hb.setSameL (by first | omega | (simp only [size_alloc, size_setB, size_drew]; omega)) | exact Hb.setSame (by assumption) | refine Hb.set (by first | omega | (simp only [size_alloc, size_setB, size_drew]; omega)) ?_ )))) (by decide) hr14 ?_
          intro w15 R15 hU15 hRe15
          have hz15 := hU15.keep.sz
          have hWd15 : Wd R15 := ⟨hU15.len, hU15.ty Wd0.2⟩
          have hR15l := hWd15.1
          have hb515 := hU15.other (Hb.mk (Hb.h (by repeat (first | assumption | exact Hb.newY _ _ | refine Hb.alloc ?_ | refine Hb.drew ?_ | refine Hb.ext (by assumption) ?_ | exact Hb.setSameL (by first | omega | (simp only [size_alloc, size_setB, size_drew]; omega)) | exact Hb.setSame (by assumption) | refine Hb.set (by first | omega | (simp only [size_alloc, size_setB, size_drew]; omega)) ?_ ))) : Hb _ b5 (.cells (ic .u8 p12) 369 (0, 0))) (by omega)
          have hXb15 := hU15.other (Hb.mk (Hb.h (by repeat (first | assumption | exact Hb.newY _ _ | refine Hb.alloc ?_ | refine Hb.drew ?_ | refine Hb.ext (by assumption) ?_ | exact Hb.setSameL (by first | omega | (simp only [size_alloc, size_setB, size_drew]; omega)) | exact Hb.setSame (by assumption) | refine Hb.set (by first | omega | (simp only [size_alloc, size_setB, size_drew]; omega)) ?_ ))) : Hb _ bx (.cells (ic .u64 X14) T (0, 0))) (by omega)
          have hb415 := hU15.hb
          have hk15 := hk14.ut hU15 (Or.inl (by omega))
          refine WO_nil ?_
          refine thn_normal ?_
          refine W_seq ?_
          have hDP : DivP X Y X14 R15 := divp_short (q := q) (r := r14) hY hq8 (fun k hk => hzz k (by omega)) (by rw [show n - 1 = 0 by omega] at hnz2; exact hnz2) hzx hr14q hlv14 hou14 (by rw [hRe15]; rfl)
          refine W_drawT2 [false, false, true, false] (RetS b4 b5 R15 p12) hmix (by kernel_rfl) rfl ⟨Hb.mk (Hb.h (by repeat (first | assumption | exact Hb.newY _ _ | refine Hb.alloc ?_ | refine Hb.drew ?_ | refine Hb.ext (by assumption) ?_ | exact Hb.setSameL (by first | omega | (simp only [size_alloc, size_setB, size_drew]; omega)) | exact Hb.setSame (by assumption) | refine Hb.set (by first | omega | (simp only [size_alloc, size_setB, size_drew]; omega)) ?_ ))), Hb.mk (Hb.h (by repeat (first | assumption | exact Hb.newY _ _ | refine Hb.alloc ?_ | refine Hb.drew ?_ | refine Hb.ext (by assumption) ?_ | exact Hb.setSameL (by first | omega | (simp only [size_alloc, size_setB, size_drew]; omega)) | exact Hb.setSame (by assumption) | refine Hb.set (by first | omega | (simp only [size_alloc, size_setB, size_drew]; omega)) ?_ )))⟩ ?_
          intro hSt
          have hSt4 := hSt.h4
          have hSt5 := hSt.h5
          have hSt5l := hSt5.lt
          have hSt4l := hSt4.lt
          try simp only [size_drew] at hSt5l hSt4l
          refine WH_loadA0 (ic .u64 R15) Hvac.isAgg61 Hvac.sizeOf61 rfl (fun w' hS => row_at hS.h4 (by first | omega | assumption | rfl | decide | exact Nat.le_refl _ | (simp only [size_ic, Value.cells]; omega) | (simp; omega) | simp)) ?_
          refine WH_loadA0 (ic .u8 p12) Hvac.isAgg369 Hvac.sizeOf369 rfl (fun w' hS => row_at hS.h5 (by first | omega | assumption | rfl | decide | exact Nat.le_refl _ | (simp only [size_ic, Value.cells]; omega) | (simp; omega) | simp)) ?_
          first | refine WH_storeW Hvac.sizeOf61 rfl (v := .agg _) rfl (Hb.h (by repeat (first | assumption | exact Hb.newY _ _ | refine Hb.alloc ?_ | refine Hb.drew ?_ | refine Hb.ext (by assumption) ?_ | exact Hb.setSameL (by first | omega | (simp only [size_alloc, size_setB, size_drew]; omega)) | exact Hb.setSame (by assumption) | refine Hb.set (by first | omega | (simp only [size_alloc, size_setB, size_drew]; omega)) ?_ ))) rfl (by first | rfl | (simp only [size_ic, Value.cells]; omega)) (by first | rfl | (simp only [size_ic]; omega)) oneCell_ic (fun _ => ⟨Hb.setSame hSt4, Hb.set (by omega) hSt5⟩) ?_ | refine WH_storeW Hvac.sizeOf369 rfl (v := .agg _) rfl (Hb.h (by repeat (first | assumption | exact Hb.newY _ _ | refine Hb.alloc ?_ | refine Hb.drew ?_ | refine Hb.ext (by assumption) ?_ | exact Hb.setSameL (by first | omega | (simp only [size_alloc, size_setB, size_drew]; omega)) | exact Hb.setSame (by assumption) | refine Hb.set (by first | omega | (simp only [size_alloc, size_setB, size_drew]; omega)) ?_ ))) rfl (by first | rfl | (simp only [size_ic, Value.cells]; omega)) (by first | rfl | (simp only [size_ic]; omega)) oneCell_ic (fun h => by cases h) ?_
          first | refine WH_storeW Hvac.sizeOf61 rfl (v := .agg _) rfl (Hb.h (by repeat (first | assumption | exact Hb.newY _ _ | refine Hb.alloc ?_ | refine Hb.drew ?_ | refine Hb.ext (by assumption) ?_ | exact Hb.setSameL (by first | omega | (simp only [size_alloc, size_setB, size_drew]; omega)) | exact Hb.setSame (by assumption) | refine Hb.set (by first | omega | (simp only [size_alloc, size_setB, size_drew]; omega)) ?_ ))) rfl (by first | rfl | (simp only [size_ic, Value.cells]; omega)) (by first | rfl | (simp only [size_ic]; omega)) oneCell_ic (fun _ => ⟨Hb.setSame hSt4, Hb.set (by omega) hSt5⟩) ?_ | refine WH_storeW Hvac.sizeOf369 rfl (v := .agg _) rfl (Hb.h (by repeat (first | assumption | exact Hb.newY _ _ | refine Hb.alloc ?_ | refine Hb.drew ?_ | refine Hb.ext (by assumption) ?_ | exact Hb.setSameL (by first | omega | (simp only [size_alloc, size_setB, size_drew]; omega)) | exact Hb.setSame (by assumption) | refine Hb.set (by first | omega | (simp only [size_alloc, size_setB, size_drew]; omega)) ?_ ))) rfl (by first | rfl | (simp only [size_ic, Value.cells]; omega)) (by first | rfl | (simp only [size_ic]; omega)) oneCell_ic (fun h => by cases h) ?_
          refine WH_nil ?_
          refine thn_normal ?_
          refine W_ret ?_
          refine thn_ret ?_
          refine bodyQ_cell2 Hvac.results371 rfl rfl Hvac.isAgg61 Hvac.sizeOf61 Hvac.isAgg369 Hvac.sizeOf369 rfl (Hb.h (by repeat (first | assumption | exact Hb.newY _ _ | refine Hb.alloc ?_ | refine Hb.drew ?_ | refine Hb.ext (by assumption) ?_ | exact Hb.setSameL (by first | omega | (simp only [size_alloc, size_setB, size_drew]; omega)) | exact Hb.setSame (by assumption) | refine Hb.set (by first | omega | (simp only [size_alloc, size_setB, size_drew]; omega)) ?_ ))) (by first | omega | assumption | rfl | decide | exact Nat.le_refl _ | (simp only [size_ic, Value.cells]; omega) | (simp; omega) | simp) rfl (Hb.h (by repeat (first | assumption | exact Hb.newY _ _ | refine Hb.alloc ?_ | refine Hb.drew ?_ | refine Hb.ext (by assumption) ?_ | exact Hb.setSameL (by first | omega | (simp only [size_alloc, size_setB, size_drew]; omega)) | exact Hb.setSame (by assumption) | refine Hb.set (by first | omega | (simp only [size_alloc, size_setB, size_drew]; omega)) ?_ ))) (by first | omega | assumption | rfl | decide | exact Nat.le_refl _ | (simp only [size_ic, Value.cells]; omega) | (simp; omega) | simp) ?_
          exact ⟨_, _, X14, rfl, hWd15, hp12, ⟨hU14.len, hUL14, Hb.mk (Hb.h (by repeat (first | assumption | exact Hb.newY _ _ | refine Hb.alloc ?_ | refine Hb.drew ?_ | refine Hb.ext (by assumption) ?_ | exact Hb.setSameL (by first | omega | (simp only [size_alloc, size_setB, size_drew]; omega)) | exact Hb.setSame (by assumption) | refine Hb.set (by first | omega | (simp only [size_alloc, size_setB, size_drew]; omega)) ?_ ))), ((KeepO.extR hk15 (Ext.drew (Ext.refl _))).setB (fun h => by omega) _).setB (fun h => by omega) _⟩, hDP⟩
        · have hb25p := hb25.h; try simp only [al_ete, al_dfn, Bool.not_eq_true', Bool.not_eq_false', al_ne, Bool.not_not, al_nn] at hb25p
          refine W_skip ?_
          refine thn_normal ?_
          refine W_seq ?_
          refine W_region rfl ?_
          refine WO_allocG Hvac.zeroValue423 ?_
          intro b8 v8 hg8 hE8 hH8 hl8
          try simp only [size_alloc, size_setB, size_drew] at hg8
          have hzz8 := hE8.1
          try simp only [size_alloc, size_setB, size_drew] at hzz8
          replace hH8 : Hb v8 b8 (.cells (ic .u64 (List.replicate 9 0)) 423 (0, 0)) := hH8
          refine WO_nil ?_
          refine thn_normal ?_
          refine W_seq ?_
          refine W_drawE [false, false, false, false, false] hmix (by kernel_rfl) rfl ?_
          refine WH_p (PS_slA Hvac.runUnderlying423 Hvac.sizeOf26 rfl (by omega)) rfl ?_
          refine WH_p (PS_move_ptr rfl) rfl ?_
          refine WH_p (PS_nilCheck rfl) rfl ?_
          refine WH_p (PS_slA Hvac.runUnderlying63 Hvac.sizeOf26 rfl (by omega)) rfl ?_
          refine WH_copyX (b := b8) (T := 423) (L := List.replicate 9 0) (b2 := bx) (L2 := X) Hvac.runUnderlying280 Hvac.sizeOf26 rfl rfl (Hb.mk (Hb.h (by repeat (first | assumption | exact Hb.newY _ _ | refine Hb.alloc ?_ | refine Hb.drew ?_ | refine Hb.ext (by assumption) ?_ | exact Hb.setSameL (by first | omega | (simp only [size_alloc, size_setB, size_drew]; omega)) | exact Hb.setSame (by assumption) | refine Hb.set (by first | omega | (simp only [size_alloc, size_setB, size_drew]; omega)) ?_ )))) (Hb.mk (Hb.h (by repeat (first | assumption | exact Hb.newY _ _ | refine Hb.alloc ?_ | refine Hb.drew ?_ | refine Hb.ext (by assumption) ?_ | exact Hb.setSameL (by first | omega | (simp only [size_alloc, size_setB, size_drew]; omega)) | exact Hb.setSame (by assumption) | refine Hb.set (by first | omega | (simp only [size_alloc, size_setB, size_drew]; omega)) ?_ )))) (by omega) (by omega) hxl hXL ?_
          intro w17 U17 hU17 hUe17
          have hz17 := hU17.keep.sz
          try simp only [size_alloc, size_setB, size_drew] at hz17
          have hUL17 := hU17.ty (ULr 9)
          have hu17 := hU17.len
          have hb317 := hU17.other (Hb.mk (Hb.h (by repeat (first | assumption | exact Hb.newY _ _ | refine Hb.alloc ?_ | refine Hb.drew ?_ | refine Hb.ext (by assumption) ?_ | exact Hb.setSameL (by first | omega | (simp only [size_alloc, size_setB, size_drew]; omega)) | exact Hb.setSame (by assumption) | refine Hb.set (by first | omega | (simp only [size_alloc, size_setB, size_drew]; omega)) ?_ ))) : Hb _ b3 (.cells (ic .u64 Y) 61 (0, 0))) (by omega)
          have hb417 := hU17.other (Hb.mk (Hb.h (by repeat (first | assumption | exact Hb.newY _ _ | refine Hb.alloc ?_ | refine Hb.drew ?_ | refine Hb.ext (by assumption) ?_ | exact Hb.setSameL (by first | omega | (simp only [size_alloc, size_setB, size_drew]; omega)) | exact Hb.setSame (by assumption) | refine Hb.set (by first | omega | (simp only [size_alloc, size_setB, size_drew]; omega)) ?_ ))) : Hb _ b4 (.cells (ic .u64 [0, 0, 0, 0]) 61 (0, 0))) (by omega)
          have hb517 := hU17.other (Hb.mk (Hb.h (by repeat (first | assumption | exact Hb.newY _ _ | refine Hb.alloc ?_ | refine Hb.drew ?_ | refine Hb.ext (by assumption) ?_ | exact Hb.setSameL (by first | omega | (simp only [size_alloc, size_setB, size_drew]; omega)) | exact Hb.setSame (by assumption) | refine Hb.set (by first | omega | (simp only [size_alloc, size_setB, size_drew]; omega)) ?_ ))) : Hb _ b5 (.cells (ic .u8 p12) 369 (0, 0))) (by omega)
          have hbx17 := hU17.other (Hb.mk (Hb.h (by repeat (first | assumption | exact Hb.newY _ _ | refine Hb.alloc ?_ | refine Hb.drew ?_ | refine Hb.ext (by assumption) ?_ | exact Hb.setSameL (by first | omega | (simp only [size_alloc, size_setB, size_drew]; omega)) | exact Hb.setSame (by assumption) | refine Hb.set (by first | omega | (simp only [size_alloc, size_setB, size_drew]; omega)) ?_ ))) : Hb _ bx (.cells (ic .u64 X) T (0, 0))) (by omega)
          have hb817 := hU17.hb
          have hk17 := ((hk12.extR hE8).extR (Ext.drew (Ext.refl _))).ut hU17 (Or.inl (by omega))
          refine ⟨(fun h => by cases h), ?_⟩
          refine WH_nil ?_
          refine thn_normal ?_
          refine W_seq ?_
          refine W_region rfl ?_
          refine WO_p (PS_move_int rfl) ?_
          refine WO_p (PS_sub_u8n rfl rfl (by omega) (by omega)) ?_
          refine WO_p (PS_indexA Hvac.runUnderlying61 Hvac.sizeOf26 rfl rfl (by omega) (by omega)) ?_
          refine WO_load (.int _ _) Hvac.isAgg26 rfl (Hb.h (by repeat (first | assumption | exact Hb.newY _ _ | refine Hb.alloc ?_ | refine Hb.drew ?_ | refine Hb.ext (by assumption) ?_ | exact Hb.setSameL (by first | omega | (simp only [size_alloc, size_setB, size_drew]; omega)) | exact Hb.setSame (by assumption) | refine Hb.set (by first | omega | (simp only [size_alloc, size_setB, size_drew]; omega)) ?_ ))) (Ce.h (by first | assumption | exact ⟨rfl⟩)) ?_
          refine WO_call Hvac.call364 (by rfl) (Ret.mono (lz64_spec _ _ (hYg (n - 1))) ?_)
          rintro _ _ ⟨rfl, ln, rfl, hln, hLn⟩
          have hln1 := hLn.pos (by have := hYg (n - 1); omega)
          rw [show (64 : Int) - (ln : Int) = ((64 - ln : Nat) : Int) by omega]
          refine WO_p (PS_conv_u8n Hvac.runUnderlying3 Hvac.runUnderlying5 rfl (by omega) (by omega)) ?_
          refine WO_p (PS_assign_int rfl) ?_
          refine WO_nil ?_
          refine thn_normal ?_
          refine W_seq ?_
          refine W_region rfl ?_
          refine WO_p (PS_slA Hvac.runUnderlying423 Hvac.sizeOf26 rfl (by omega)) ?_
          refine WO_p (PS_move_int rfl) ?_
          refine WO_call Hvac.call365 (by rfl) (Ret.mono (shiftUp_ex b8 0 9 _ 423 U17 (64 - ln) _ (Hb.mk (Hb.h (by repeat (first | assumption | exact Hb.newY _ _ | refine Hb.alloc ?_ | refine Hb.drew ?_ | refine Hb.ext (by assumption) ?_ | exact Hb.setSameL (by first | omega | (simp only [size_alloc, size_setB, size_drew]; omega)) | exact Hb.setSame (by assumption) | refine Hb.set (by first | omega | (simp only [size_alloc, size_setB, size_drew]; omega)) ?_ )))) hUL17 (by omega) (by omega) (by omega)) ?_)
          rintro _ w19 ⟨rfl, U19, hl19, hUL19, hXx19, hkk19, ⟨c19, hc19, hlv19⟩, hou19⟩
          have hU19 : UT b8 423 U17 _ w19 U19 := ⟨hl19, fun _ => hUL19, hXx19, hkk19⟩
          have hz19 := hU19.keep.sz
          have hu19 := hU19.len
          have hb319 := hU19.other (Hb.mk (Hb.h (by repeat (first | assumption | exact Hb.newY _ _ | refine Hb.alloc ?_ | refine Hb.drew ?_ | refine Hb.ext (by assumption) ?_ | exact Hb.setSameL (by first | omega | (simp only [size_alloc, size_setB, size_drew]; omega)) | exact Hb.setSame (by assumption) | refine Hb.set (by first | omega | (simp only [size_alloc, size_setB, size_drew]; omega)) ?_ ))) : Hb _ b3 (.cells (ic .u64 Y) 61 (0, 0))) (by omega)
          have hb419 := hU19.other (Hb.mk (Hb.h (by repeat (first | assumption | exact Hb.newY _ _ | refine Hb.alloc ?_ | refine Hb.drew ?_ | refine Hb.ext (by assumption) ?_ | exact Hb.setSameL (by first | omega | (simp only [size_alloc, size_setB, size_drew]; omega)) | exact Hb.setSame (by assumption) | refine Hb.set (by first | omega | (simp only [size_alloc, size_setB, size_drew]; omega)) ?_ ))) : Hb _ b4 (.cells (ic .u64 [0, 0, 0, 0]) 61 (0, 0))) (by omega)
          have hb519 := hU19.other (Hb.mk (Hb.h (by repeat (first | assumption | exact Hb.newY _ _ | refine Hb.alloc ?_ | refine Hb.drew ?_ | refine Hb.ext (by assumption) ?_ | exact Hb.setSameL (by first | omega | (simp only [size_alloc, size_setB, size_drew]; omega)) | exact Hb.setSame (by assumption) | refine Hb.set (by first | omega | (simp only [size_alloc, size_setB, size_drew]; omega)) ?_ ))) : Hb _ b5 (.cells (ic .u8 p12) 369 (0, 0))) (by omega)
          have hbx19 := hU19.other (Hb.mk (Hb.h (by repeat (first | assumption | exact Hb.newY _ _ | refine Hb.alloc ?_ | refine Hb.drew ?_ | refine Hb.ext (by assumption) ?_ | exact Hb.setSameL (by first | omega | (simp only [size_alloc, size_setB, size_drew]; omega)) | exact Hb.setSame (by assumption) | refine Hb.set (by first | omega | (simp only [size_alloc, size_setB, size_drew]; omega)) ?_ ))) : Hb _ bx (.cells (ic .u64 X) T (0, 0))) (by omega)
          have hb819 := hU19.hb
          have hk19 := hk17.ut hU19 (Or.inl (by omega))
          refine WO_nil ?_
          refine thn_normal ?_
          refine W_seq ?_
          refine W_region rfl ?_
          refine WO_p (PS_slA Hvac.runUnderlying61 Hvac.sizeOf26 rfl (by omega)) ?_
          refine WO_p (PS_move_int rfl) ?_
          refine WO_call Hvac.call365 (by rfl) (Ret.mono (shiftUp_ex b3 0 4 _ 61 Y (64 - ln) _ (Hb.mk (Hb.h (by repeat (first | assumption | exact Hb.newY _ _ | refine Hb.alloc ?_ | refine Hb.drew ?_ | refine Hb.ext (by assumption) ?_ | exact Hb.setSameL (by first | omega | (simp only [size_alloc, size_setB, size_drew]; omega)) | exact Hb.setSame (by assumption) | refine Hb.set (by first | omega | (simp only [size_alloc, size_setB, size_drew]; omega)) ?_ )))) hY.2 (by omega) (by omega) (by omega)) ?_)
          rintro _ w20 ⟨rfl, Y20, hl20, hUL20, hXx20, hkk20, ⟨c20, hc20, hlv20⟩, hou20⟩
          have hU20 : UT b3 61 Y _ w20 Y20 := ⟨hl20, fun _ => hUL20, hXx20, hkk20⟩
          have hz20 := hU20.keep.sz
          have hWd20 : Wd Y20 := ⟨by rw [hU20.len]; exact hYl, hUL20⟩
          have hb820 := hU20.other (Hb.mk (Hb.h (by repeat (first | assumption | exact Hb.newY _ _ | refine Hb.alloc ?_ | refine Hb.drew ?_ | refine Hb.ext (by assumption) ?_ | exact Hb.setSameL (by first | omega | (simp only [size_alloc, size_setB, size_drew]; omega)) | exact Hb.setSame (by assumption) | refine Hb.set (by first | omega | (simp only [size_alloc, size_setB, size_drew]; omega)) ?_ ))) : Hb _ b8 (.cells (ic .u64 U19) 423 (0, 0))) (by omega)
          have hb420 := hU20.other (Hb.mk (Hb.h (by repeat (first | assumption | exact Hb.newY _ _ | refine Hb.alloc ?_ | refine Hb.drew ?_ | refine Hb.ext (by assumption) ?_ | exact Hb.setSameL (by first | omega | (simp only [size_alloc, size_setB, size_drew]; omega)) | exact Hb.setSame (by assumption) | refine Hb.set (by first | omega | (simp only [size_alloc, size_setB, size_drew]; omega)) ?_ ))) : Hb _ b4 (.cells (ic .u64 [0, 0, 0, 0]) 61 (0, 0))) (by omega)
          have hb520 := hU20.other (Hb.mk (Hb.h (by repeat (first | assumption | exact Hb.newY _ _ | refine Hb.alloc ?_ | refine Hb.drew ?_ | refine Hb.ext (by assumption) ?_ | exact Hb.setSameL (by first | omega | (simp only [size_alloc, size_setB, size_drew]; omega)) | exact Hb.setSame (by assumption) | refine Hb.set (by first | omega | (simp only [size_alloc, size_setB, size_drew]; omega)) ?_ ))) : Hb _ b5 (.cells (ic .u8 p12) 369 (0, 0))) (by omega)
          have hbx20 := hU20.other (Hb.mk (Hb.h (by repeat (first | assumption | exact Hb.newY _ _ | refine Hb.alloc ?_ | refine Hb.drew ?_ | refine Hb.ext (by assumption) ?_ | exact Hb.setSameL (by first | omega | (simp only [size_alloc, size_setB, size_drew]; omega)) | exact Hb.setSame (by assumption) | refine Hb.set (by first | omega | (simp only [size_alloc, size_setB, size_drew]; omega)) ?_ ))) : Hb _ bx (.cells (ic .u64 X) T (0, 0))) (by omega)
          have hb320 := hU20.hb
          have hk20 := hk19.ut hU20 (Or.inl (by omega))
          refine WO_nil ?_
          refine thn_normal ?_
          refine W_seq ?_
          refine W_region rfl ?_
          refine WO_p (PS_move_ptr rfl) ?_
          refine WO_p (PS_nilCheck rfl) ?_
          refine WO_p (PS_slA Hvac.runUnderlying63 Hvac.sizeOf26 rfl (by omega)) ?_
          refine WO_clearX (b := bx) (T := T) (L := X) Hvac.runUnderlying280 Hvac.zeroValue26 rfl (Hb.mk (Hb.h (by repeat (first | assumption | exact Hb.newY _ _ | refine Hb.alloc ?_ | refine Hb.drew ?_ | refine Hb.ext (by assumption) ?_ | exact Hb.setSameL (by first | omega | (simp only [size_alloc, size_setB, size_drew]; omega)) | exact Hb.setSame (by assumption) | refine Hb.set (by first | omega | (simp only [size_alloc, size_setB, size_drew]; omega)) ?_ )))) (by omega) (by omega) ?_
          intro w21 X21 hU21 hXe21
          have hXz21 : ∀ k, X21.getD k 0 = 0 := fun k => by rw [hXe21]; exact getD_rep _ _
          have hz21 := hU21.keep.sz
          try simp only [size_alloc, size_setB, size_drew] at hz21
          have hb321 := hU21.other (Hb.mk (Hb.h (by repeat (first | assumption | exact Hb.newY _ _ | refine Hb.alloc ?_ | refine Hb.drew ?_ | refine Hb.ext (by assumption) ?_ | exact Hb.setSameL (by first | omega | (simp only [size_alloc, size_setB, size_drew]; omega)) | exact Hb.setSame (by assumption) | refine Hb.set (by first | omega | (simp only [size_alloc, size_setB, size_drew]; omega)) ?_ ))) : Hb _ b3 (.cells (ic .u64 Y20) 61 (0, 0))) (by omega)
          have hb421 := hU21.other (Hb.mk (Hb.h (by repeat (first | assumption | exact Hb.newY _ _ | refine Hb.alloc ?_ | refine Hb.drew ?_ | refine Hb.ext (by assumption) ?_ | exact Hb.setSameL (by first | omega | (simp only [size_alloc, size_setB, size_drew]; omega)) | exact Hb.setSame (by assumption) | refine Hb.set (by first | omega | (simp only [size_alloc, size_setB, size_drew]; omega)) ?_ ))) : Hb _ b4 (.cells (ic .u64 [0, 0, 0, 0]) 61 (0, 0))) (by omega)
          have hb521 := hU21.other (Hb.mk (Hb.h (by repeat (first | assumption | exact Hb.newY _ _ | refine Hb.alloc ?_ | refine Hb.drew ?_ | refine Hb.ext (by assumption) ?_ | exact Hb.setSameL (by first | omega | (simp only [size_alloc, size_setB, size_drew]; omega)) | exact Hb.setSame (by assumption) | refine Hb.set (by first | omega | (simp only [size_alloc, size_setB, size_drew]; omega)) ?_ ))) : Hb _ b5 (.cells (ic .u8 p12) 369 (0, 0))) (by omega)
          have hb821 := hU21.other (Hb.mk (Hb.h (by repeat (first | assumption | exact Hb.newY _ _ | refine Hb.alloc ?_ | refine Hb.drew ?_ | refine Hb.ext (by assumption) ?_ | exact Hb.setSameL (by first | omega | (simp only [size_alloc, size_setB, size_drew]; omega)) | exact Hb.setSame (by assumption) | refine Hb.set (by first | omega | (simp only [size_alloc, size_setB, size_drew]; omega)) ?_ ))) : Hb _ b8 (.cells (ic .u64 U19) 423 (0, 0))) (by omega)
          have hk21 : KeepO (fun x => x = bx) w w21 := KeepO.ut hk20 hU21 (Or.inr rfl)
          have hXb21 := hU21.hb
          refine WO_nil ?_
          refine thn_normal ?_
          refine W_seq ?_
          refine W_seq ?_
          have hDU := div_up hY.2 hUL20 (N := 4) hn0 hn4 hln hLn.1 (hLn.2 hnz2) hzz hc20.1 hlv20
          have hYz20 : ∀ k, n ≤ k → Y20.getD k 0 = 0 := fun k hk => by
            rcases Nat.lt_or_ge k 4 with h9 | h9
            · exact hDU.2.2.2.1 k hk h9
            · exact getD_out (by have := hWd20.1; omega)
          have hX9 : lvr U17 0 9 = lvr X 0 8 := by
            have e1 : lvr U17 0 8 = lvr X 0 8 := lvr_congr 8 (fun k hk => by rw [hUe17, getD_app, if_pos (by omega)])
            rw [lvr_succ, e1, hUe17, getD_app, if_neg (by omega), show (List.replicate 9 (0 : Int)).drop 8 = [0] from rfl, show 0 + 8 - X.length = 0 by omega]
            simp
          have hXq := lvr_zero_from (L := X) (o := 0) (a := q) (8 - q) (fun k h1 h2 => by rw [Nat.zero_add]; exact hzx k h1)
          rw [show q + (8 - q) = 8 by omega] at hXq
          have hXb := lvr_bd hXL 0 q
          rw [← hXq] at hXb
          have hSb : (0:Int) < 2 ^ (64 - ln) ∧ (2:Int) ^ (64 - ln) ≤ 18446744073709551616 := by
            have h1 := pow64 hln
            have h2 := pow2_pos ln
            have h3 := pow2_pos (64 - ln)
            have : (2:Int) ^ (64 - ln) * 1 ≤ 2 ^ (64 - ln) * 2 ^ ln := Int.mul_le_mul_of_nonneg_left (by omega) (Int.le_of_lt h3)
            exact ⟨h3, by omega⟩
          have hU9 : lvr U19 0 9 = lvr X 0 8 * 2 ^ (64 - ln) := by
            rw [hX9] at hlv19
            refine up_exact (lvr_bd hUL19 0 9).1 hc19.1 hlv19 ?_
            have h8 := lvr_bd hXL 0 8
            have h5 : lvr X 0 8 * 2 ^ (64 - ln) ≤ lvr X 0 8 * 18446744073709551616 := Int.mul_le_mul_of_nonneg_left hSb.2 h8.1
            have h6 : (lvr X 0 8 + 1) * 18446744073709551616 ≤ 18446744073709551616 ^ 8 * 18446744073709551616 := Int.mul_le_mul_of_nonneg_right h8.2 (by decide)
            rw [show (18446744073709551616 : Int) ^ 9 = 18446744073709551616 ^ 8 * 18446744073709551616 from Int.pow_succ _ _]
            omega
          have hst := div_start (Y' := Y20) (X := X) hUL19 (q := q) (N := 9) hn0 hnq (by omega) hSb hXb hU9 hDU.2.2.1 hDU.2.2.2.2.2
          have hVp : 0 < lvr Y20 0 n := by
            have h1 := lvr_bd hUL19 (q - n + 1) n
            omega
          have hDI : DivI (lvr X 0 8 * 2 ^ (64 - ln)) (lvr Y20 0 n) n (q - n + 1) 9 8 X21 U19 := ⟨by rw [lvr_zeros (L := X21) 8 (fun k _ => hXz21 _), hU9]; omega, fun k _ => hXz21 k, fun k hk => by
            rcases Nat.lt_or_ge k 9 with h9 | h9
            · exact hst.1 k (by omega) h9
            · exact getD_out (by omega), hst.2⟩
          refine W_region rfl ?_
          refine WO_p (PS_fieldAddr 0 Hvac.runUnderlying369 rfl Hvac.sizeOf5 rfl rfl) ?_
          refine WO_load (.int _ _) Hvac.isAgg5 rfl (Hb.h (by repeat (first | assumption | exact Hb.newY _ _ | refine Hb.alloc ?_ | refine Hb.drew ?_ | refine Hb.ext (by assumption) ?_ | exact Hb.setSameL (by first | omega | (simp only [size_alloc, size_setB, size_drew]; omega)) | exact Hb.setSame (by assumption) | refine Hb.set (by first | omega | (simp only [size_alloc, size_setB, size_drew]; omega)) ?_ ))) (Ce.h (by first | assumption | exact ⟨rfl⟩)) ?_
          refine WO_p (PS_assign_int rfl) ?_
          refine WO_nil ?_
          refine thn_normal ?_
          refine W_block ?_
          refine W_loopN (fun m ρ w' => ∃ (j : Nat) (X5 U5 p5 : List Int), j = m ∧ j + n ≤ 9 ∧ DivI (lvr X 0 8 * 2 ^ (64 - ln)) (lvr Y20 0 n) n j 9 8 X5 U5 ∧ X5.length = 8 ∧ UL X5 ∧ U5.length = 9 ∧ UL U5 ∧ p5.length = 3 ∧ By8 p5 ∧ Fr [(0, .pointer (some ⟨bx, 0, none⟩)), (3, .pointer (some ⟨b3, 0, none⟩)), (4, .pointer (some ⟨b4, 0, none⟩)), (5, .pointer (some ⟨b5, 0, none⟩)), (6, .int .u8 n), (8, .pointer (some ⟨b8, 0, none⟩)), (9, .int .u8 ((64 - ln : Nat) : Int)), (10, .int .u8 j)] ρ ∧ KeepO (fun x => x = bx) w w' ∧ v8.heap.size ≤ w'.heap.size ∧ Hb w' bx (.cells (ic .u64 X5) T (0, 0)) ∧ Hb w' b3 (.cells (ic .u64 Y20) 61 (0, 0)) ∧ Hb w' b4 (.cells (ic .u64 [0, 0, 0, 0]) 61 (0, 0)) ∧ Hb w' b5 (.cells (ic .u8 p5) 369 (0, 0)) ∧ Hb w' b8 (.cells (ic .u64 U5) 423 (0, 0))) (q - n + 1) ?_ ?_
          · exact ⟨q - n + 1, X21, U19, p12, rfl, by omega, hDI, by have := hU21.len; omega, hU21.ty hXL, by omega, hUL19, by omega, hBy12, ⟨rfl, rfl, rfl, rfl, rfl, rfl, rfl, congrArg (Value.int .u8) (by omega), trivial⟩, hk21, by omega, hXb21, hb321, hb421, hb521, hb821⟩
          intro m ρ w5 hI
          obtain ⟨j, X5, U5, p5, hjm, hj8, hDj, hx5, hX5, hu5, hU5, hp5, hP5, hF5, hk5, hz5v, hXb5, hb35, hb45, hb55, hb85⟩ := hI
          refine W_env _ hF5 ?_
          have hz5 := hk5.sz
          have hp5a := by8_get hP5 0
          have hp5b := by8_get hP5 1
          have hp5c := by8_get hP5 2
          skip
          refine W_seq ?_
          refine W_seq ?_
          refine W_region rfl ?_
          refine WO_p (PS_move_int rfl) ?_
          refine WO_p (PS_gtr rfl rfl) ?_
          refine WO_nil ?_
          refine thn_normal ?_
          refine W_if rfl (fun hb31 => ?_) (fun hb31 => ?_)
          · have hb31p := hb31.h; try simp only [al_ete, al_dfn, Bool.not_eq_true', Bool.not_eq_false', al_ne, Bool.not_not, al_nn] at hb31p
            refine W_skip ?_
            refine thn_normal ?_
            refine W_seq ?_
            refine W_block ?_
            refine W_seq ?_
            refine W_region rfl ?_
            refine WO_p (PS_move_int rfl) ?_
            refine WO_p (PS_move_int rfl) ?_
            refine WO_p (PS_sub_u8n rfl rfl (by omega) (by omega)) ?_
            rw [show (j : Int) - 1 = ((j - 1 : Nat) : Int) by omega]
            refine WO_call Hvac.call379 (by rfl) (Ret.mono (roundU_ex b8 b3 n (j - 1) 423 61 U5 Y20 _ (Hb.mk (Hb.h (by repeat (first | assumption | exact Hb.newY _ _ | refine Hb.alloc ?_ | refine Hb.drew ?_ | refine Hb.ext (by assumption) ?_ | exact Hb.setSameL (by first | omega | (simp only [size_alloc, size_setB, size_drew]; omega)) | exact Hb.setSame (by assumption) | refine Hb.set (by first | omega | (simp only [size_alloc, size_setB, size_drew]; omega)) ?_ )))) (Hb.mk (Hb.h (by repeat (first | assumption | exact Hb.newY _ _ | refine Hb.alloc ?_ | refine Hb.drew ?_ | refine Hb.ext (by assumption) ?_ | exact Hb.setSameL (by first | omega | (simp only [size_alloc, size_setB, size_drew]; omega)) | exact Hb.setSame (by assumption) | refine Hb.set (by first | omega | (simp only [size_alloc, size_setB, size_drew]; omega)) ?_ )))) (by omega) hu5 hU5 hWd20 (by omega) (by omega) (by omega) hn4 (by omega) hYz20 hDU.2.2.2.2.1 (fun k hk => hDj.uz k (by omega)) (by rw [show j - 1 + 1 = j by omega]; exact hDj.lt)) ?_)
            rintro _ w6 ⟨q6, f6, z6, rfl, hq6, hf6, U6, hl6, hUL6, hXx6, hkk6, hrd6, hou6⟩
            have hU6 : UT b8 423 U5 _ w6 U6 := ⟨hl6, fun _ => hUL6, hXx6, hkk6⟩
            have hz6 := hU6.keep.sz
            try simp only [size_alloc, size_setB, size_drew] at hz6
            have hb36 := hU6.other (Hb.mk (Hb.h (by repeat (first | assumption | exact Hb.newY _ _ | refine Hb.alloc ?_ | refine Hb.drew ?_ | refine Hb.ext (by assumption) ?_ | exact Hb.setSameL (by first | omega | (simp only [size_alloc, size_setB, size_drew]; omega)) | exact Hb.setSame (by assumption) | refine Hb.set (by first | omega | (simp only [size_alloc, size_setB, size_drew]; omega)) ?_ ))) : Hb _ b3 (.cells (ic .u64 Y20) 61 (0, 0))) (by omega)
            have hb46 := hU6.other (Hb.mk (Hb.h (by repeat (first | assumption | exact Hb.newY _ _ | refine Hb.alloc ?_ | refine Hb.drew ?_ | refine Hb.ext (by assumption) ?_ | exact Hb.setSameL (by first | omega | (simp only [size_alloc, size_setB, size_drew]; omega)) | exact Hb.setSame (by assumption) | refine Hb.set (by first | omega | (simp only [size_alloc, size_setB, size_drew]; omega)) ?_ ))) : Hb _ b4 (.cells (ic .u64 [0, 0, 0, 0]) 61 (0, 0))) (by omega)
            have hb56 := hU6.other (Hb.mk (Hb.h (by repeat (first | assumption | exact Hb.newY _ _ | refine Hb.alloc ?_ | refine Hb.drew ?_ | refine Hb.ext (by assumption) ?_ | exact Hb.setSameL (by first | omega | (simp only [size_alloc, size_setB, size_drew]; omega)) | exact Hb.setSame (by assumption) | refine Hb.set (by first | omega | (simp only [size_alloc, size_setB, size_drew]; omega)) ?_ ))) : Hb _ b5 (.cells (ic .u8 p5) 369 (0, 0))) (by omega)
            have hXb6 := hU6.other (Hb.mk (Hb.h (by repeat (first | assumption | exact Hb.newY _ _ | refine Hb.alloc ?_ | refine Hb.drew ?_ | refine Hb.ext (by assumption) ?_ | exact Hb.setSameL (by first | omega | (simp only [size_alloc, size_setB, size_drew]; omega)) | exact Hb.setSame (by assumption) | refine Hb.set (by first | omega | (simp only [size_alloc, size_setB, size_drew]; omega)) ?_ ))) : Hb _ bx (.cells (ic .u64 X5) T (0, 0))) (by omega)
            have hb86 := hU6.hb
            have hk6 := hk5.ut hU6 (Or.inl (by omega))
            refine WO_p (PS_move_tuple rfl) ?_
            refine WO_p (PS_extract_int rfl rfl) ?_
            refine WO_p (PS_extract_int rfl rfl) ?_
            refine WO_p (PS_extract_bool rfl rfl) ?_
            refine WO_p (PS_assign_int rfl) ?_
            refine WO_p (PS_assign_int rfl) ?_
            refine WO_p (PS_assign_bool rfl) ?_
            refine WO_nil ?_
            refine thn_normal ?_
            refine W_seq ?_
            refine W_region rfl ?_
            refine WO_p (PS_move_ptr rfl) ?_
            refine WO_p (PS_move_int rfl) ?_
            refine WO_p (PS_sub_u8n rfl rfl (by omega) (by omega)) ?_
            refine WO_p (PS_move_int rfl) ?_
            refine WO_p (PS_nilCheck rfl) ?_
            refine WO_p (PS_indexA Hvac.runUnderlying63 Hvac.sizeOf26 rfl rfl (by omega) (by omega)) ?_
            refine WO_storeX (b := bx) (T := T) (L := X5) Hvac.sizeOf26 rfl rfl (Hb.mk (Hb.h (by repeat (first | assumption | exact Hb.newY _ _ | refine Hb.alloc ?_ | refine Hb.drew ?_ | refine Hb.ext (by assumption) ?_ | exact Hb.setSameL (by first | omega | (simp only [size_alloc, size_setB, size_drew]; omega)) | exact Hb.setSame (by assumption) | refine Hb.set (by first | omega | (simp only [size_alloc, size_setB, size_drew]; omega)) ?_ )))) (by omega) hq6 ?_
            intro w7 X7 hU7 hXe7
            have hz7 := hU7.keep.sz
            have hb37 := hU7.other (Hb.mk (Hb.h (by repeat (first | assumption | exact Hb.newY _ _ | refine Hb.alloc ?_ | refine Hb.drew ?_ | refine Hb.ext (by assumption) ?_ | exact Hb.setSameL (by first | omega | (simp only [size_alloc, size_setB, size_drew]; omega)) | exact Hb.setSame (by assumption) | refine Hb.set (by first | omega | (simp only [size_alloc, size_setB, size_drew]; omega)) ?_ ))) : Hb _ b3 (.cells (ic .u64 Y20) 61 (0, 0))) (by omega)
            have hb47 := hU7.other (Hb.mk (Hb.h (by repeat (first | assumption | exact Hb.newY _ _ | refine Hb.alloc ?_ | refine Hb.drew ?_ | refine Hb.ext (by assumption) ?_ | exact Hb.setSameL (by first | omega | (simp only [size_alloc, size_setB, size_drew]; omega)) | exact Hb.setSame (by assumption) | refine Hb.set (by first | omega | (simp only [size_alloc, size_setB, size_drew]; omega)) ?_ ))) : Hb _ b4 (.cells (ic .u64 [0, 0, 0, 0]) 61 (0, 0))) (by omega)
            have hb57 := hU7.other (Hb.mk (Hb.h (by repeat (first | assumption | exact Hb.newY _ _ | refine Hb.alloc ?_ | refine Hb.drew ?_ | refine Hb.ext (by assumption) ?_ | exact Hb.setSameL (by first | omega | (simp only [size_alloc, size_setB, size_drew]; omega)) | exact Hb.setSame (by assumption) | refine Hb.set (by first | omega | (simp only [size_alloc, size_setB, size_drew]; omega)) ?_ ))) : Hb _ b5 (.cells (ic .u8 p5) 369 (0, 0))) (by omega)
            have hb87 := hU7.other (Hb.mk (Hb.h (by repeat (first | assumption | exact Hb.newY _ _ | refine Hb.alloc ?_ | refine Hb.drew ?_ | refine Hb.ext (by assumption) ?_ | exact Hb.setSameL (by first | omega | (simp only [size_alloc, size_setB, size_drew]; omega)) | exact Hb.setSame (by assumption) | refine Hb.set (by first | omega | (simp only [size_alloc, size_setB, size_drew]; omega)) ?_ ))) : Hb _ b8 (.cells (ic .u64 U6) 423 (0, 0))) (by omega)
            have hXb7 := hU7.hb
            have hk7 := hk6.ut hU7 (Or.inr rfl)
            have hD7 : DivI (lvr X 0 8 * 2 ^ (64 - ln)) (lvr Y20 0 n) n (j - 1) 9 8 X7 U6 := by rw [hXe7, show 0 + ((j : Int) - 1).toNat * 1 = j - 1 by omega]; exact hDj.round hUL6 (by omega) (by omega) (by omega) (by omega) hVp (Int.le_of_lt (lvr_bd hUL20 0 n).2) hrd6.1 hrd6.2 hou6
            have hce1 : Ce (ic .u8 p5) (0 + 1) (.int .u8 (p5.getD 1 0)) := by have h := ce_ic (k := .u8) (l := p5) (i := 1) (by omega); simpa using h
            refine WO_nil ?_
            refine thn_normal ?_
            refine W_seq ?_
            refine W_region rfl ?_
            refine WO_p (PS_fieldAddr 1 Hvac.runUnderlying369 rfl Hvac.sizeOf5 rfl rfl) ?_
            refine WO_load (.int _ _) Hvac.isAgg5 rfl (Hb.h (by repeat (first | assumption | exact Hb.newY _ _ | refine Hb.alloc ?_ | refine Hb.drew ?_ | refine Hb.ext (by assumption) ?_ | exact Hb.setSameL (by first | omega | (simp only [size_alloc, size_setB, size_drew]; omega)) | exact Hb.setSame (by assumption) | refine Hb.set (by first | omega | (simp only [size_alloc, size_setB, size_drew]; omega)) ?_ ))) (Ce.h (by first | assumption | exact ⟨rfl⟩)) ?_
            refine WO_p (PS_move_int rfl) ?_
            refine WO_p (PS_add_u8w rfl rfl) ?_
            refine WO_p (PS_fieldAddr 1 Hvac.runUnderlying369 rfl Hvac.sizeOf5 rfl rfl) ?_
            refine WO_storeB (b := b5) (T := 369) (L := p5) Hvac.sizeOf5 rfl rfl (Hb.mk (Hb.h (by repeat (first | assumption | exact Hb.newY _ _ | refine Hb.alloc ?_ | refine Hb.drew ?_ | refine Hb.ext (by assumption) ?_ | exact Hb.setSameL (by first | omega | (simp only [size_alloc, size_setB, size_drew]; omega)) | exact Hb.setSame (by assumption) | refine Hb.set (by first | omega | (simp only [size_alloc, size_setB, size_drew]; omega)) ?_ )))) (by omega) (by omega) ?_
            intro w8 p8 hT8
            have hz8 := hT8.keep.sz
            have hBy8 : By8 p8 := hT8.ty hP5
            have hp8 : p8.length = 3 := hT8.len.trans hp5
            have hp8c := by8_get hBy8 2
            have hb38 := hT8.other (Hb.mk (Hb.h (by repeat (first | assumption | exact Hb.newY _ _ | refine Hb.alloc ?_ | refine Hb.drew ?_ | refine Hb.ext (by assumption) ?_ | exact Hb.setSameL (by first | omega | (simp only [size_alloc, size_setB, size_drew]; omega)) | exact Hb.setSame (by assumption) | refine Hb.set (by first | omega | (simp only [size_alloc, size_setB, size_drew]; omega)) ?_ ))) : Hb _ b3 (.cells (ic .u64 Y20) 61 (0, 0))) (by omega)
            have hb48 := hT8.other (Hb.mk (Hb.h (by repeat (first | assumption | exact Hb.newY _ _ | refine Hb.alloc ?_ | refine Hb.drew ?_ | refine Hb.ext (by assumption) ?_ | exact Hb.setSameL (by first | omega | (simp only [size_alloc, size_setB, size_drew]; omega)) | exact Hb.setSame (by assumption) | refine Hb.set (by first | omega | (simp only [size_alloc, size_setB, size_drew]; omega)) ?_ ))) : Hb _ b4 (.cells (ic .u64 [0, 0, 0, 0]) 61 (0, 0))) (by omega)
            have hb88 := hT8.other (Hb.mk (Hb.h (by repeat (first | assumption | exact Hb.newY _ _ | refine Hb.alloc ?_ | refine Hb.drew ?_ | refine Hb.ext (by assumption) ?_ | exact Hb.setSameL (by first | omega | (simp only [size_alloc, size_setB, size_drew]; omega)) | exact Hb.setSame (by assumption) | refine Hb.set (by first | omega | (simp only [size_alloc, size_setB, size_drew]; omega)) ?_ ))) : Hb _ b8 (.cells (ic .u64 U6) 423 (0, 0))) (by omega)
            have hbx8 := hT8.other (Hb.mk (Hb.h (by repeat (first | assumption | exact Hb.newY _ _ | refine Hb.alloc ?_ | refine Hb.drew ?_ | refine Hb.ext (by assumption) ?_ | exact Hb.setSameL (by first | omega | (simp only [size_alloc, size_setB, size_drew]; omega)) | exact Hb.setSame (by assumption) | refine Hb.set (by first | omega | (simp only [size_alloc, size_setB, size_drew]; omega)) ?_ ))) : Hb _ bx (.cells (ic .u64 X7) T (0, 0))) (by omega)
            have hb58 := hT8.hb
            have hk8 := hk7.bt hT8 (Or.inl (by omega))
            have hce2 : Ce (ic .u8 p8) (0 + 2) (.int .u8 (p8.getD 2 0)) := by have h := ce_ic (k := .u8) (l := p8) (i := 2) (by omega); simpa using h
            refine WO_nil ?_
            refine thn_normal ?_
            refine W_seq ?_
            refine W_region rfl ?_
            refine WO_p (PS_move_bool rfl) ?_
            refine WO_nil ?_
            refine thn_normal ?_
            refine W_if rfl (fun hb34 => ?_) (fun hb34 => ?_)
            · have hb34p := hb34.h; try simp only [al_ete, al_dfn, Bool.not_eq_true', Bool.not_eq_false', al_ne, Bool.not_not, al_nn] at hb34p
              refine W_region rfl ?_
              refine WO_p (PS_fieldAddr 2 Hvac.runUnderlying369 rfl Hvac.sizeOf5 rfl rfl) ?_
              refine WO_load (.int _ _) Hvac.isAgg5 rfl (Hb.h (by repeat (first | assumption | exact Hb.newY _ _ | refine Hb.alloc ?_ | refine Hb.drew ?_ | refine Hb.ext (by assumption) ?_ | exact Hb.setSameL (by first | omega | (simp only [size_alloc, size_setB, size_drew]; omega)) | exact Hb.setSame (by assumption) | refine Hb.set (by first | omega | (simp only [size_alloc, size_setB, size_drew]; omega)) ?_ ))) (Ce.h (by first | assumption | exact ⟨rfl⟩)) ?_
              refine WO_p (PS_add_u8w rfl rfl) ?_
              refine WO_p (PS_fieldAddr 2 Hvac.runUnderlying369 rfl Hvac.sizeOf5 rfl rfl) ?_
              refine WO_storeB (b := b5) (T := 369) (L := p8) Hvac.sizeOf5 rfl rfl (Hb.mk (Hb.h (by repeat (first | assumption | exact Hb.newY _ _ | refine Hb.alloc ?_ | refine Hb.drew ?_ | refine Hb.ext (by assumption) ?_ | exact Hb.setSameL (by first | omega | (simp only [size_alloc, size_setB, size_drew]; omega)) | exact Hb.setSame (by assumption) | refine Hb.set (by first | omega | (simp only [size_alloc, size_setB, size_drew]; omega)) ?_ )))) (by omega) (by omega) ?_
              intro w9 p9 hT9
              have hz9 := hT9.keep.sz
              have hBy9 : By8 p9 := hT9.ty hBy8
              have hp9 : p9.length = 3 := hT9.len.trans hp8
              have hb39 := hT9.other (Hb.mk (Hb.h (by repeat (first | assumption | exact Hb.newY _ _ | refine Hb.alloc ?_ | refine Hb.drew ?_ | refine Hb.ext (by assumption) ?_ | exact Hb.setSameL (by first | omega | (simp only [size_alloc, size_setB, size_drew]; omega)) | exact Hb.setSame (by assumption) | refine Hb.set (by first | omega | (simp only [size_alloc, size_setB, size_drew]; omega)) ?_ ))) : Hb _ b3 (.cells (ic .u64 Y20) 61 (0, 0))) (by omega)
              have hb49 := hT9.other (Hb.mk (Hb.h (by repeat (first | assumption | exact Hb.newY _ _ | refine Hb.alloc ?_ | refine Hb.drew ?_ | refine Hb.ext (by assumption) ?_ | exact Hb.setSameL (by first | omega | (simp only [size_alloc, size_setB, size_drew]; omega)) | exact Hb.setSame (by assumption) | refine Hb.set (by first | omega | (simp only [size_alloc, size_setB, size_drew]; omega)) ?_ ))) : Hb _ b4 (.cells (ic .u64 [0, 0, 0, 0]) 61 (0, 0))) (by omega)
              have hb89 := hT9.other (Hb.mk (Hb.h (by repeat (first | assumption | exact Hb.newY _ _ | refine Hb.alloc ?_ | refine Hb.drew ?_ | refine Hb.ext (by assumption) ?_ | exact Hb.setSameL (by first | omega | (simp only [size_alloc, size_setB, size_drew]; omega)) | exact Hb.setSame (by assumption) | refine Hb.set (by first | omega | (simp only [size_alloc, size_setB, size_drew]; omega)) ?_ ))) : Hb _ b8 (.cells (ic .u64 U6) 423 (0, 0))) (by omega)
              have hbx9 := hT9.other (Hb.mk (Hb.h (by repeat (first | assumption | exact Hb.newY _ _ | refine Hb.alloc ?_ | refine Hb.drew ?_ | refine Hb.ext (by assumption) ?_ | exact Hb.setSameL (by first | omega | (simp only [size_alloc, size_setB, size_drew]; omega)) | exact Hb.setSame (by assumption) | refine Hb.set (by first | omega | (simp only [size_alloc, size_setB, size_drew]; omega)) ?_ ))) : Hb _ bx (.cells (ic .u64 X7) T (0, 0))) (by omega)
              have hb59 := hT9.hb
              have hk9 := hk8.bt hT9 (Or.inl (by omega))
              refine WO_nil ?_
              refine inBlk_normal ?_
              refine thn_normal ?_
              refine W_region rfl ?_
              refine WO_p (PS_move_int rfl) ?_
              refine WO_p (PS_sub_u8n rfl rfl (by omega) (by omega)) ?_
              refine WO_p (PS_assign_int rfl) ?_
              refine WO_nil ?_
              refine thn_normal ?_
              exact ⟨m - 1, by omega, j - 1, X7, U6, p9, by omega, by omega, hD7, by have := hU7.len; omega, hU7.ty hX5, by have := hU6.len; omega, hUL6, hp9, hBy9, ⟨rfl, rfl, rfl, rfl, rfl, rfl, rfl, congrArg (Value.int .u8) (by omega), trivial⟩, hk9, by omega, hbx9, hb39, hb49, hb59, hb89⟩
            · have hb34p := hb34.h; try simp only [al_ete, al_dfn, Bool.not_eq_true', Bool.not_eq_false', al_ne, Bool.not_not, al_nn] at hb34p
              refine W_skip ?_
              refine inBlk_normal ?_
              refine thn_normal ?_
              refine W_region rfl ?_
              refine WO_p (PS_move_int rfl) ?_
              refine WO_p (PS_sub_u8n rfl rfl (by omega) (by omega)) ?_
              refine WO_p (PS_assign_int rfl) ?_
              refine WO_nil ?_
              refine thn_normal ?_
              exact ⟨m - 1, by omega, j - 1, X7, U6, p8, by omega, by omega, hD7, by have := hU7.len; omega, hU7.ty hX5, by have := hU6.len; omega, hUL6, hp8, hBy8, ⟨rfl, rfl, rfl, rfl, rfl, rfl, rfl, congrArg (Value.int .u8) (by omega), trivial⟩, hk8, by omega, hbx8, hb38, hb48, hb58, hb88⟩
          · have hb31p := hb31.h; try simp only [al_ete, al_dfn, Bool.not_eq_true', Bool.not_eq_false', al_ne, Bool.not_not, al_nn] at hb31p
            refine W_exit ?_
            refine thn_exit ?_
            refine thn_exit ?_
            refine inBlk_exit ?_
            refine thn_normal ?_
            refine W_seq ?_
            have hu5x : Xt (ic .u64 U5) 0 (0 + 4) (ic .u64 (U5.take 4)) := by have h := Xt.ic .u64 U5 0 4 (by omega); rwa [List.drop_zero] at h
            have hW30 : Wd (U5.take 4) := ⟨by simp [hu5], fun z hz => hU5 z (List.mem_of_mem_take hz)⟩
            have hW30l := hW30.1
            refine W_region rfl ?_
            refine WO_p (PS_slA_h Hvac.runUnderlying423 Hvac.sizeOf26 rfl rfl (by omega) (by omega) (by omega)) ?_
            refine WO_p (PS_arrayAt Hvac.runUnderlying61 rfl (by omega)) ?_
            refine WO_loadA _ Hvac.isAgg61 Hvac.sizeOf61 rfl (Hb.h (by repeat (first | assumption | exact Hb.newY _ _ | refine Hb.alloc ?_ | refine Hb.drew ?_ | refine Hb.ext (by assumption) ?_ | exact Hb.setSameL (by first | omega | (simp only [size_alloc, size_setB, size_drew]; omega)) | exact Hb.setSame (by assumption) | refine Hb.set (by first | omega | (simp only [size_alloc, size_setB, size_drew]; omega)) ?_ ))) (by first | omega | assumption | rfl | decide | exact Nat.le_refl _ | (simp only [size_ic, Value.cells]; omega) | (simp; omega) | simp) (Xt.h (by first | assumption | exact Xt.whole rfl rfl | exact Xt.whole rfl (by assumption) | exact Xt.whole rfl (by simp only [size_ic, Value.cells]; omega) | exact ⟨rfl⟩)) ?_
            refine WO_storeW Hvac.sizeOf61 rfl (v := .agg _) rfl (Hb.h (by repeat (first | assumption | exact Hb.newY _ _ | refine Hb.alloc ?_ | refine Hb.drew ?_ | refine Hb.ext (by assumption) ?_ | exact Hb.setSameL (by first | omega | (simp only [size_alloc, size_setB, size_drew]; omega)) | exact Hb.setSame (by assumption) | refine Hb.set (by first | omega | (simp only [size_alloc, size_setB, size_drew]; omega)) ?_ ))) rfl (by first | rfl | (simp only [size_ic, Value.cells]; omega)) (by first | rfl | (simp only [size_ic]; omega)) oneCell_ic ?_
            change WO _ _ _ _ _ (setB _ _ (.cells (ic .u64 (U5.take 4)) 61 (0, 0)))
            refine WO_nil ?_
            refine thn_normal ?_
            refine W_seq ?_
            refine W_region rfl ?_
            refine WO_p (PS_slA Hvac.runUnderlying61 Hvac.sizeOf26 rfl (by omega)) ?_
            refine WO_p (PS_move_int rfl) ?_
            refine WO_call Hvac.call367 (by rfl) (Ret.mono (shiftDown_ex b4 0 4 _ 61 (U5.take 4) (64 - ln) _ (Hb.mk (Hb.h (by repeat (first | assumption | exact Hb.newY _ _ | refine Hb.alloc ?_ | refine Hb.drew ?_ | refine Hb.ext (by assumption) ?_ | exact Hb.setSameL (by first | omega | (simp only [size_alloc, size_setB, size_drew]; omega)) | exact Hb.setSame (by assumption) | refine Hb.set (by first | omega | (simp only [size_alloc, size_setB, size_drew]; omega)) ?_ )))) hW30.2 (by omega) (by omega) (by omega)) ?_)
            rintro _ w31 ⟨rfl, R32, hl31, hUL31, hXx31, hkk31, hlv31, hou31⟩
            have hU31 : UT b4 61 (U5.take 4) _ w31 R32 := ⟨hl31, fun _ => hUL31, hXx31, hkk31⟩
            have hz31 := hU31.keep.sz
            have hWd31 : Wd R32 := ⟨by rw [hU31.len]; exact hW30.1, hUL31⟩
            have hWd31l := hWd31.1
            have hb531 := hU31.other (Hb.mk (Hb.h (by repeat (first | assumption | exact Hb.newY _ _ | refine Hb.alloc ?_ | refine Hb.drew ?_ | refine Hb.ext (by assumption) ?_ | exact Hb.setSameL (by first | omega | (simp only [size_alloc, size_setB, size_drew]; omega)) | exact Hb.setSame (by assumption) | refine Hb.set (by first | omega | (simp only [size_alloc, size_setB, size_drew]; omega)) ?_ ))) : Hb _ b5 (.cells (ic .u8 p5) 369 (0, 0))) (by omega)
            have hbx31 := hU31.other (Hb.mk (Hb.h (by repeat (first | assumption | exact Hb.newY _ _ | refine Hb.alloc ?_ | refine Hb.drew ?_ | refine Hb.ext (by assumption) ?_ | exact Hb.setSameL (by first | omega | (simp only [size_alloc, size_setB, size_drew]; omega)) | exact Hb.setSame (by assumption) | refine Hb.set (by first | omega | (simp only [size_alloc, size_setB, size_drew]; omega)) ?_ ))) : Hb _ bx (.cells (ic .u64 X5) T (0, 0))) (by omega)
            have hb431 := hU31.hb
            have hk31 := (hk5.setB (x := b4) (fun h => by omega) _).ut hU31 (Or.inl (by omega))
            refine WO_nil ?_
            refine thn_normal ?_
            refine W_seq ?_
            have hDP : DivP X Y X5 R32 := divp_long (V := lvr Y20 0 n) hY hU5 hu5 hn0 hn4 hln hzz hnz2 (by rw [hDU.2.2.1, ← hDU.2.1, wv_lvr hY]) (by rw [show j = 0 by omega] at hDj; exact hDj) hWd31 hlv31
            refine W_drawT2 [false, false, true, false] (RetS b4 b5 R32 p5) hmix (by kernel_rfl) rfl ⟨Hb.mk (Hb.h (by repeat (first | assumption | exact Hb.newY _ _ | refine Hb.alloc ?_ | refine Hb.drew ?_ | refine Hb.ext (by assumption) ?_ | exact Hb.setSameL (by first | omega | (simp only [size_alloc, size_setB, size_drew]; omega)) | exact Hb.setSame (by assumption) | refine Hb.set (by first | omega | (simp only [size_alloc, size_setB, size_drew]; omega)) ?_ ))), Hb.mk (Hb.h (by repeat (first | assumption | exact Hb.newY _ _ | refine Hb.alloc ?_ | refine Hb.drew ?_ | refine Hb.ext (by assumption) ?_ | exact Hb.setSameL (by first | omega | (simp only [size_alloc, size_setB, size_drew]; omega)) | exact Hb.setSame (by assumption) | refine Hb.set (by first | omega | (simp only [size_alloc, size_setB, size_drew]; omega)) ?_ )))⟩ ?_
            intro hSt
            have hSt4 := hSt.h4
            have hSt5 := hSt.h5
            have hSt5l := hSt5.lt
            have hSt4l := hSt4.lt
            try simp only [size_drew] at hSt5l hSt4l
            refine WH_loadA0 (ic .u64 R32) Hvac.isAgg61 Hvac.sizeOf61 rfl (fun w' hS => row_at hS.h4 (by first | omega | assumption | rfl | decide | exact Nat.le_refl _ | (simp only [size_ic, Value.cells]; omega) | (simp; omega) | simp)) ?_
            refine WH_loadA0 (ic .u8 p5) Hvac.isAgg369 Hvac.sizeOf369 rfl (fun w' hS => row_at hS.h5 (by first | omega | assumption | rfl | decide | exact Nat.le_refl _ | (simp only [size_ic, Value.cells]; omega) | (simp; omega) | simp)) ?_
            first | refine WH_storeW Hvac.sizeOf61 rfl (v := .agg _) rfl (Hb.h (by repeat (first | assumption | exact Hb.newY _ _ | refine Hb.alloc ?_ | refine Hb.drew ?_ | refine Hb.ext (by assumption) ?_ | exact Hb.setSameL (by first | omega | (simp only [size_alloc, size_setB, size_drew]; omega)) | exact Hb.setSame (by assumption) | refine Hb.set (by first | omega | (simp only [size_alloc, size_setB, size_drew]; omega)) ?_ ))) rfl (by first | rfl | (simp only [size_ic, Value.cells]; omega)) (by first | rfl | (simp only [size_ic]; omega)) oneCell_ic (fun _ => ⟨Hb.setSame hSt4, Hb.set (by omega) hSt5⟩) ?_ | refine WH_storeW Hvac.sizeOf369 rfl (v := .agg _) rfl (Hb.h (by repeat (first | assumption | exact Hb.newY _ _ | refine Hb.alloc ?_ | refine Hb.drew ?_ | refine Hb.ext (by assumption) ?_ | exact Hb.setSameL (by first | omega | (simp only [size_alloc, size_setB, size_drew]; omega)) | exact Hb.setSame (by assumption) | refine Hb.set (by first | omega | (simp only [size_alloc, size_setB, size_drew]; omega)) ?_ ))) rfl (by first | rfl | (simp only [size_ic, Value.cells]; omega)) (by first | rfl | (simp only [size_ic]; omega)) oneCell_ic (fun h => by cases h) ?_
            first | refine WH_storeW Hvac.sizeOf61 rfl (v := .agg _) rfl (Hb.h (by repeat (first | assumption | exact Hb.newY _ _ | refine Hb.alloc ?_ | refine Hb.drew ?_ | refine Hb.ext (by assumption) ?_ | exact Hb.setSameL (by first | omega | (simp only [size_alloc, size_setB, size_drew]; omega)) | exact Hb.setSame (by assumption) | refine Hb.set (by first | omega | (simp only [size_alloc, size_setB, size_drew]; omega)) ?_ ))) rfl (by first | rfl | (simp only [size_ic, Value.cells]; omega)) (by first | rfl | (simp only [size_ic]; omega)) oneCell_ic (fun _ => ⟨Hb.setSame hSt4, Hb.set (by omega) hSt5⟩) ?_ | refine WH_storeW Hvac.sizeOf369 rfl (v := .agg _) rfl (Hb.h (by repeat (first | assumption | exact Hb.newY _ _ | refine Hb.alloc ?_ | refine Hb.drew ?_ | refine Hb.ext (by assumption) ?_ | exact Hb.setSameL (by first | omega | (simp only [size_alloc, size_setB, size_drew]; omega)) | exact Hb.setSame (by assumption) | refine Hb.set (by first | omega | (simp only [size_alloc, size_setB, size_drew]; omega)) ?_ ))) rfl (by first | rfl | (simp only [size_ic, Value.cells]; omega)) (by first | rfl | (simp only [size_ic]; omega)) oneCell_ic (fun h => by cases h) ?_
            refine WH_nil ?_
            refine thn_normal ?_
            refine W_ret ?_
            refine bodyQ_cell2 Hvac.results371 rfl rfl Hvac.isAgg61 Hvac.sizeOf61 Hvac.isAgg369 Hvac.sizeOf369 rfl (Hb.h (by repeat (first | assumption | exact Hb.newY _ _ | refine Hb.alloc ?_ | refine Hb.drew ?_ | refine Hb.ext (by assumption) ?_ | exact Hb.setSameL (by first | omega | (simp only [size_alloc, size_setB, size_drew]; omega)) | exact Hb.setSame (by assumption) | refine Hb.set (by first | omega | (simp only [size_alloc, size_setB, size_drew]; omega)) ?_ ))) (by first | omega | assumption | rfl | decide | exact Nat.le_refl _ | (simp only [size_ic, Value.cells]; omega) | (simp; omega) | simp) rfl (Hb.h (by repeat (first | assumption | exact Hb.newY _ _ | refine Hb.alloc ?_ | refine Hb.drew ?_ | refine Hb.ext (by assumption) ?_ | exact Hb.setSameL (by first | omega | (simp only [size_alloc, size_setB, size_drew]; omega)) | exact Hb.setSame (by assumption) | refine Hb.set (by first | omega | (simp only [size_alloc, size_setB, size_drew]; omega)) ?_ ))) (by first | omega | assumption | rfl | decide | exact Nat.le_refl _ | (simp only [size_ic, Value.cells]; omega) | (simp; omega) | simp) ?_
            exact ⟨_, _, X5, rfl, hWd31, hp5, ⟨hx5.trans hxl.symm, hX5, Hb.mk (Hb.h (by repeat (first | assumption | exact Hb.newY _ _ | refine Hb.alloc ?_ | refine Hb.drew ?_ | refine Hb.ext (by assumption) ?_ | exact Hb.setSameL (by first | omega | (simp only [size_alloc, size_setB, size_drew]; omega)) | exact Hb.setSame (by assumption) | refine Hb.set (by first | omega | (simp only [size_alloc, size_setB, size_drew]; omega)) ?_ ))), ((KeepO.extR hk31 (Ext.drew (Ext.refl _))).setB (fun h => by omega) _).setB (fun h => by omega) _⟩, hDP⟩

end Go.Proofs.YgvacwGreat
