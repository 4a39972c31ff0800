import Derived.Test.YgvacwGreatVf
namespace Go.Proofs.YgvacwGreat
set_option linter.unusedSimpArgs false
set_option linter.unusedVariables false
/-! digits to the base 256, the least first -/
def dv : List Int → Nat
  | [] => 0
  | d :: l => d.toNat + 256 * dv l
def dg (n : Nat) : List Int := if h : n = 0 then [] else ((n % 256 : Nat) : Int) :: dg (n / 256)
def sz (n : Nat) : Nat := (dg n).length
theorem dg_zero : dg 0 = [] := by rw [dg]; simp
theorem dg_pos {n : Nat} (h : n ≠ 0) : dg n = ((n % 256 : Nat) : Int) :: dg (n / 256) := by rw [dg]; simp [h]
theorem dv_dg (n : Nat) : dv (dg n) = n := by
  induction n using Nat.strongRecOn with
  | ind n ih =>
    by_cases h : n = 0
    · subst h; rw [dg_zero]; rfl
    · rw [dg_pos h]; simp only [dv]; rw [ih _ (by omega)]; omega
theorem dg_by (n : Nat) : ∀ x ∈ dg n, 0 ≤ x ∧ x ≤ 255 := by
  induction n using Nat.strongRecOn with
  | ind n ih =>
    by_cases h : n = 0
    · subst h; rw [dg_zero]; intro x hx; cases hx
    · rw [dg_pos h]
      intro x hx
      rcases List.mem_cons.1 hx with rfl | hx
      · omega
      · exact ih _ (by omega) x hx
theorem dv_lt {L : List Int} (h : ∀ x ∈ L, 0 ≤ x ∧ x ≤ 255) : dv L < 256 ^ L.length := by
  induction L with
  | nil => decide
  | cons d l ih =>
    have h1 := ih fun x hx => h x (List.mem_cons_of_mem _ hx)
    have h2 := h d (List.mem_cons_self)
    simp only [dv, List.length_cons, Nat.pow_succ]
    omega
theorem dv_append (a b : List Int) : dv (a ++ b) = dv a + 256 ^ a.length * dv b := by
  induction a with
  | nil => simp [dv]
  | cons d l ih =>
    simp only [List.cons_append, dv, List.length_cons, Nat.pow_succ]
    rw [ih, Nat.mul_add, Nat.mul_comm (256 ^ l.length) 256, Nat.mul_assoc]
    omega
theorem dv_rep0 (n : Nat) : dv (List.replicate n 0) = 0 := by
  induction n with
  | zero => rfl
  | succ n ih => rw [List.replicate_succ]; simp only [dv]; rw [ih]; rfl
theorem dv_zeros {L : List Int} (h : ∀ x ∈ L, x = 0) : dv L = 0 := by
  induction L with
  | nil => rfl
  | cons d l ih => simp only [dv]; rw [ih fun x hx => h x (List.mem_cons_of_mem _ hx), h d List.mem_cons_self]; rfl
theorem dv_take (L : List Int) (k : Nat) (h : k ≤ L.length) : dv L = dv (L.take k) + 256 ^ k * dv (L.drop k) := by
  have := dv_append (L.take k) (L.drop k)
  rw [List.take_append_drop, List.length_take, Nat.min_eq_left h] at this
  exact this
/-- digits with no zero at the top are the digits of their value -/
theorem dg_dv {L : List Int} (h : ∀ x ∈ L, 0 ≤ x ∧ x ≤ 255) (ht : L = [] ∨ L.getD (L.length - 1) 0 ≠ 0) : dg (dv L) = L := by
  induction L with
  | nil => exact dg_zero
  | cons d l ih =>
    have h2 := h d (List.mem_cons_self)
    have hl : ∀ x ∈ l, 0 ≤ x ∧ x ≤ 255 := fun x hx => h x (List.mem_cons_of_mem _ hx)
    have ht' : (d :: l).getD ((d :: l).length - 1) 0 ≠ 0 := by
      rcases ht with ht | ht
      · cases ht
      · exact ht
    have hne : dv (d :: l) ≠ 0 := by
      simp only [dv]
      cases l with
      | nil => simp at ht'; simp [dv]; omega
      | cons e l' =>
        have hi := ih hl (Or.inr (by simpa using ht'))
        intro h0
        have h3 : dv (e :: l') = 0 := by omega
        rw [h3, dg_zero] at hi; cases hi
    rw [dg_pos hne]
    have e1 : dv (d :: l) % 256 = d.toNat := by simp only [dv]; omega
    have e2 : dv (d :: l) / 256 = dv l := by simp only [dv]; omega
    rw [e1, e2]
    have e3 : ((d.toNat : Nat) : Int) = d := by omega
    rw [e3]
    cases l with
    | nil => rw [show dv [] = 0 from rfl, dg_zero]
    | cons e l' => rw [ih hl (Or.inr (by simpa using ht'))]
/-- the zeros at the top are cut -/
theorem dg_trim {L : List Int} (h : ∀ x ∈ L, 0 ≤ x ∧ x ≤ 255) {k : Nat} (hk : k ≤ L.length) (hz : ∀ i, k ≤ i → i < L.length → L.getD i 0 = 0) (ht : k = 0 ∨ L.getD (k - 1) 0 ≠ 0) : L.take k = dg (dv L) := by
  have e1 : dv (L.drop k) = 0 := dv_zeros fun x hx => by
    obtain ⟨i, hi, he⟩ := List.mem_iff_getElem.1 hx
    have := hz (k + i) (by omega) (by simp at hi; omega)
    rw [List.getElem_drop] at he
    rw [List.getD_eq_getElem?_getD, List.getElem?_eq_getElem (by simp at hi; omega)] at this
    simpa [he] using this
  have e2 := dv_take L k hk
  rw [e1, Nat.mul_zero, Nat.add_zero] at e2
  rw [e2, dg_dv (fun x hx => h x (List.mem_of_mem_take hx))]
  rcases ht with rfl | ht
  · left; simp
  · by_cases h0 : k = 0
    · left; subst h0; simp
    · right
      rw [List.length_take, Nat.min_eq_left hk]
      rw [List.getD_eq_getElem?_getD, List.getElem?_take_of_lt (by omega), ← List.getD_eq_getElem?_getD]
      exact ht
theorem lt_sz (n : Nat) : n < 256 ^ sz n := by
  have := dv_lt (dg_by n)
  rw [dv_dg] at this; exact this
theorem le_of_sz {n : Nat} (h : n ≠ 0) : 256 ^ (sz n - 1) ≤ n := by
  induction n using Nat.strongRecOn with
  | ind n ih =>
    unfold sz at ih ⊢
    rw [dg_pos h]
    by_cases h1 : n / 256 = 0
    · rw [h1, dg_zero]; simp; omega
    · have := ih (n / 256) (by omega) h1
      have hl : 0 < (dg (n / 256)).length := by
        rw [dg_pos h1]; simp
      simp only [List.length_cons, Nat.add_sub_cancel]
      obtain ⟨k, hk⟩ : ∃ k, (dg (n / 256)).length = k + 1 := ⟨(dg (n / 256)).length - 1, by omega⟩
      rw [hk] at this ⊢
      rw [Nat.add_sub_cancel] at this
      rw [Nat.pow_succ]; omega
theorem sz_le {n k : Nat} (h : n < 256 ^ k) : sz n ≤ k := by
  by_cases h0 : n = 0
  · subst h0; unfold sz; rw [dg_zero]; exact Nat.zero_le _
  · have h1 := le_of_sz h0
    have h2 : 256 ^ (sz n - 1) < 256 ^ k := Nat.lt_of_le_of_lt h1 h
    have := (Nat.pow_lt_pow_iff_right (by decide : 1 < 256)).1 h2
    omega
theorem sz_mono {a b : Nat} (h : a ≤ b) : sz a ≤ sz b := sz_le (Nat.lt_of_le_of_lt h (lt_sz b))
theorem sz_add (a b : Nat) : sz (a + b) ≤ max (sz a) (sz b) + 1 := by
  apply sz_le
  have h1 := lt_sz a
  have h2 := lt_sz b
  have h3 : 256 ^ sz a ≤ 256 ^ max (sz a) (sz b) := Nat.pow_le_pow_right (by decide) (Nat.le_max_left _ _)
  have h4 : 256 ^ sz b ≤ 256 ^ max (sz a) (sz b) := Nat.pow_le_pow_right (by decide) (Nat.le_max_right _ _)
  rw [Nat.pow_succ]; omega
theorem sz_mul (a b : Nat) : sz (a * b) ≤ sz a + sz b := by
  apply sz_le
  rw [Nat.pow_add]
  exact Nat.mul_lt_mul'' (lt_sz a) (lt_sz b)
theorem sz_zero : sz 0 = 0 := by unfold sz; rw [dg_zero]; rfl
theorem dg_len (n : Nat) : (dg n).length = sz n := rfl
theorem lt_of_sz {n k : Nat} (h : sz n ≤ k) : n < 256 ^ k := Nat.lt_of_lt_of_le (lt_sz n) (Nat.pow_le_pow_right (by decide) h)
theorem sz64 {n : Nat} (h : n < 18446744073709551616) : sz n ≤ 8 := sz_le (by simpa using h)
theorem sz256 {n : Nat} (h : n < 115792089237316195423570985008687907853269984665640564039457584007913129639936) : sz n ≤ 32 := sz_le (by simpa using h)
theorem sz_eq_zero {n : Nat} (h : sz n = 0) : n = 0 := by have := lt_sz n; rw [h] at this; simpa using this
end Go.Proofs.YgvacwGreat
