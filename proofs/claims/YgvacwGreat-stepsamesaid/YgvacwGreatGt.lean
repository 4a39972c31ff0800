import Derived.Test.YgvacwGreatGs
namespace Go.Proofs.YgvacwGreat
set_option linter.unusedSimpArgs false
set_option linter.unusedVariables false
theorem PL.cut [Om] {α : Type} {enc : α → List Value} {u : Nat} {T : TypeId} {w : World} {p : Option Addr} {n c k : Nat} {l : List α} (h : PL enc u T w (p, n, c) l) (hk : k ≤ n) : PL enc u T w (p, k, k) (l.take k) := by
  have h0 := h.len
  dsimp only at h0
  refine ⟨by rw [List.length_take]; dsimp only; omega, Nat.le_refl _, fun h1 => ?_⟩
  dsimp only at h1
  obtain ⟨b, r, fz, e, h2, h3, h4⟩ := h.row (by dsimp only; omega)
  refine ⟨b, r, fz, e, h2, h3, ?_, fun i x hx => h4.2 i x ?_⟩
  · have := h4.1
    have h5 : u * (l.take k).length ≤ u * l.length := Nat.mul_le_mul_left u (by rw [List.length_take]; omega)
    omega
  · rw [List.getElem?_take] at hx
    split at hx
    · exact hx
    · cases hx
theorem R2.take {α β : Type} {R : α → β → Prop} {L : List α} {l : List β} (h : R2 R L l) (k : Nat) : R2 R (L.take k) (l.take k) := by
  refine ⟨by rw [List.length_take, List.length_take, h.1], fun i x y hx hy => ?_⟩
  rw [List.getElem?_take] at hx hy
  split at hx
  · rename_i hi; rw [if_pos hi] at hy; exact h.2 i x y hx hy
  · cases hx
theorem StR.cut [Om] {w : World} {p : Option Addr} {n c k : Nat} {l : List Nat} (h : StR w (p, n, c) l) (hk : k ≤ n) : StR w (p, k, k) (l.take k) := by
  obtain ⟨L, h1, h2⟩ := h
  exact ⟨L.take k, h1.cut hk, h2.take k⟩

end Go.Proofs.YgvacwGreat
