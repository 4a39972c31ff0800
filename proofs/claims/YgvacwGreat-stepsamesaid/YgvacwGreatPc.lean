import Derived.Test.YgvacwGreatPa
import Derived.Test.YgvacwGreatFwU
namespace Go.Proofs.YgvacwGreat
set_option linter.unusedSimpArgs false
set_option linter.unusedVariables false
/-! digits one by one -/
theorem gd_set (l : List Int) (i j : Nat) (x : Int) (h : i < l.length) : (l.set i x).getD j 0 = if j = i then x else l.getD j 0 := by
  rw [List.getD_eq_getElem?_getD, List.getD_eq_getElem?_getD]
  by_cases e : j = i
  · subst e; rw [List.getElem?_set_self h, if_pos rfl]; rfl
  · rw [List.getElem?_set_ne (fun h => e h.symm), if_neg e]
theorem gd_ext {a b : List Int} (hl : a.length = b.length) (h : ∀ i, i < a.length → a.getD i 0 = b.getD i 0) : a = b := by
  refine List.ext_getElem hl fun i h1 h2 => ?_
  have := h i h1
  rw [List.getD_eq_getElem?_getD, List.getD_eq_getElem?_getD, List.getElem?_eq_getElem h1, List.getElem?_eq_getElem h2] at this
  exact this
theorem gd_ge {l : List Int} {i : Nat} (h : l.length ≤ i) : l.getD i 0 = 0 := by
  rw [List.getD_eq_getElem?_getD, List.getElem?_eq_none h]; rfl
theorem gd_rep (n i : Nat) : (List.replicate n (0 : Int)).getD i 0 = 0 := by
  rw [List.getD_eq_getElem?_getD, List.getElem?_replicate]; split <;> rfl
theorem gd_by {l : List Int} (h : ∀ x ∈ l, 0 ≤ x ∧ x ≤ 255) (i : Nat) : 0 ≤ l.getD i 0 ∧ l.getD i 0 ≤ 255 := by
  rw [List.getD_eq_getElem?_getD]
  rcases Nat.lt_or_ge i l.length with h1 | h1
  · rw [List.getElem?_eq_getElem h1]; exact h _ (List.getElem_mem h1)
  · rw [List.getElem?_eq_none h1]; decide
theorem gd_drop (l : List Int) (k i : Nat) : (l.drop k).getD i 0 = l.getD (k + i) 0 := by
  rw [List.getD_eq_getElem?_getD, List.getD_eq_getElem?_getD, List.getElem?_drop]
theorem gd_take (l : List Int) (k i : Nat) (h : i < k) : (l.take k).getD i 0 = l.getD i 0 := by
  rw [List.getD_eq_getElem?_getD, List.getD_eq_getElem?_getD, List.getElem?_take_of_lt h]
theorem gd_rev (l : List Int) (i : Nat) (h : i < l.length) : l.reverse.getD i 0 = l.getD (l.length - 1 - i) 0 := by
  rw [List.getD_eq_getElem?_getD, List.getD_eq_getElem?_getD, List.getElem?_reverse h]
theorem gd_mem {l : List Int} {n : Nat} (hl : l.length = n) {P : Int → Prop} (h : ∀ i, i < n → P (l.getD i 0)) : ∀ x ∈ l, P x := by
  intro x hx
  obtain ⟨i, hi, he⟩ := List.mem_iff_getElem.1 hx
  have := h i (by omega)
  rw [List.getD_eq_getElem?_getD, List.getElem?_eq_getElem hi] at this
  rw [← he]; exact this
theorem gd_map {f : Nat → Int} (n i : Nat) (h : i < n) : ((List.range n).map f).getD i 0 = f i := by
  rw [List.getD_eq_getElem?_getD, List.getElem?_map, List.getElem?_range h]; rfl
theorem dv_gd {L : List Int} (h : ∀ x ∈ L, 0 ≤ x ∧ x ≤ 255) (i : Nat) : L.getD i 0 = ((dv L / 256 ^ i % 256 : Nat) : Int) := by
  induction L generalizing i with
  | nil => simp [dv]
  | cons d l ih =>
    have h2 := h d (List.mem_cons_self)
    have hl : ∀ x ∈ l, 0 ≤ x ∧ x ≤ 255 := fun x hx => h x (List.mem_cons_of_mem _ hx)
    cases i with
    | zero => simp only [dv, Nat.pow_zero, Nat.div_one]; show d = _; omega
    | succ i =>
      have e : dv (d :: l) / 256 ^ (i + 1) = dv l / 256 ^ i := by
        rw [Nat.pow_succ, Nat.mul_comm, ← Nat.div_div_eq_div_mul]
        congr 1
        simp only [dv]; omega
      rw [e, ← ih hl i]; rfl
theorem dg_gd (n i : Nat) : (dg n).getD i 0 = ((n / 256 ^ i % 256 : Nat) : Int) := by
  have := dv_gd (dg_by n) i
  rwa [dv_dg] at this
theorem dv_drop (L : List Int) (k : Nat) (h : k < L.length) : dv (L.drop k) = (L.getD k 0).toNat + 256 * dv (L.drop (k + 1)) := by
  rw [List.drop_eq_getElem_cons h]
  simp only [dv]
  rw [List.getD_eq_getElem?_getD, List.getElem?_eq_getElem h]; rfl
theorem dv_take_succ (L : List Int) (k : Nat) (h : k < L.length) : dv (L.take (k + 1)) = dv (L.take k) + 256 ^ k * (L.getD k 0).toNat := by
  rw [List.take_add_one, List.getElem?_eq_getElem h, dv_append, List.length_take, Nat.min_eq_left (Nat.le_of_lt h)]
  rw [List.getD_eq_getElem?_getD, List.getElem?_eq_getElem h]
  simp [dv]
theorem dv_gdext {a b : List Int} (hl : a.length = b.length) (h : ∀ i, i < a.length → a.getD i 0 = b.getD i 0) : dv a = dv b := by rw [gd_ext hl h]
/-- n in k bytes, the greatest first -/
def be (k n : Nat) : List Int := (List.range k).map fun i => ((n / 256 ^ (k - 1 - i) % 256 : Nat) : Int)
theorem be_len (k n : Nat) : (be k n).length = k := by simp [be]
theorem be_gd (k n i : Nat) (h : i < k) : (be k n).getD i 0 = ((n / 256 ^ (k - 1 - i) % 256 : Nat) : Int) := gd_map k i h
theorem be_by (k n : Nat) : ∀ x ∈ be k n, 0 ≤ x ∧ x ≤ 255 := gd_mem (be_len k n) fun i hi => by rw [be_gd k n i hi]; omega
/-- the number that bytes make, the greatest first -/
def bvY (L : List Int) : Nat := dv L.reverse
theorem bv_by {L : List Int} (h : ∀ x ∈ L, 0 ≤ x ∧ x ≤ 255) : ∀ x ∈ L.reverse, 0 ≤ x ∧ x ≤ 255 := fun x hx => h x (List.mem_reverse.1 hx)
theorem bv_lt {L : List Int} (h : ∀ x ∈ L, 0 ≤ x ∧ x ≤ 255) : bvY L < 256 ^ L.length := by
  have := dv_lt (bv_by h); rwa [List.length_reverse] at this
theorem be_bv {L : List Int} {k : Nat} (h : ∀ x ∈ L, 0 ≤ x ∧ x ≤ 255) (hk : L.length = k) : be k (bvY L) = L := by
  refine gd_ext (by rw [be_len, hk]) fun i hi => ?_
  rw [be_len] at hi
  rw [be_gd k _ i hi]
  have := dv_gd (bv_by h) (k - 1 - i)
  unfold bvY
  rw [← this, gd_rev _ _ (by omega), hk]
  congr 1; omega
theorem bv_be (k n : Nat) (h : n < 256 ^ k) : bvY (be k n) = n := by
  have h1 := bv_lt (be_by k n)
  rw [be_len] at h1
  -- both have the same digits
  have key : ∀ k a b : Nat, a < 256 ^ k → b < 256 ^ k → (∀ i, i < k → a / 256 ^ i % 256 = b / 256 ^ i % 256) → a = b := by
    intro k
    induction k with
    | zero => intro a b ha hb _; simp at ha hb; omega
    | succ k ih =>
      intro a b ha hb hi
      have h0 := hi 0 (by omega)
      simp only [Nat.pow_zero, Nat.div_one] at h0
      have h2 := ih (a / 256) (b / 256) (by rw [Nat.pow_succ] at ha; omega) (by rw [Nat.pow_succ] at hb; omega) (fun i hik => by
        have := hi (i + 1) (by omega)
        rw [Nat.pow_succ, Nat.mul_comm, ← Nat.div_div_eq_div_mul, ← Nat.div_div_eq_div_mul] at this
        exact this)
      omega
  refine key k _ _ h1 h fun i hi => ?_
  have e1 := dv_gd (bv_by (be_by k n)) i
  rw [gd_rev _ _ (by rw [be_len]; omega), be_len, be_gd k n _ (by omega)] at e1
  unfold bvY
  have e2 : k - 1 - (k - 1 - i) = i := by omega
  rw [e2] at e1
  omega
/-- the leading zeros are left out -/
theorem dg_be {L : List Int} (h : ∀ x ∈ L, 0 ≤ x ∧ x ≤ 255) {i : Nat} (hi : i < L.length) (hz : ∀ j, j < i → L.getD j 0 = 0) (ht : L.getD i 0 ≠ 0) : dg (bvY L) = (L.drop i).reverse := by
  have hlen : ((L.drop i).reverse).length = L.length - i := by simp
  have := dg_trim (L := L.reverse) (bv_by h) (k := L.length - i) (by simp) (fun j h1 h2 => by
    rw [List.length_reverse] at h2
    rw [gd_rev _ _ h2]; exact hz _ (by omega)) (Or.inr (by
    rw [gd_rev _ _ (by omega)]
    rw [show L.length - 1 - (L.length - i - 1) = i by omega]; exact ht))
  unfold bvY
  rw [← this]
  refine gd_ext (by simp) fun j hj => ?_
  simp at hj
  rw [gd_take _ _ _ (by omega), gd_rev _ _ (by omega), gd_rev _ _ (by simp; omega), gd_drop]
  congr 1
  simp; omega
theorem bv_zeros {L : List Int} (h : ∀ j, j < L.length → L.getD j 0 = 0) : bvY L = 0 := by
  unfold bvY
  refine dv_zeros fun x hx => ?_
  have := gd_mem (l := L) (P := fun x => x = 0) rfl h x (List.mem_reverse.1 hx)
  exact this
end Go.Proofs.YgvacwGreat
