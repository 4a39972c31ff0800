import Derived.Test.YgvacwGreatRb
namespace Go.Proofs.YgvacwGreat
set_option linter.unusedSimpArgs false
set_option linter.unusedVariables false
/-! lists that are being built -/
/-- what an append of such records needs to know of their type -/
structure AppI {α : Type} (enc : α → List Value) (u : Nat) (e t : TypeId) (B : Nat) : Prop where
  ht : Hvac.prog.underlying t = some (.slice e)
  hi : ∃ i z, Hvac.prog.info? e = some i ∧ i.zero = some z ∧ i.size = u ∧ i.bytes = B ∧ z.cells.size = u
  one : ∀ x, ∀ v ∈ enc x, v.oneCell' = true
  hB : B ≤ 1000
/-- A list built since w0, in a block that is none of X. -/
structure BL {α : Type} (enc : α → List Value) (u : Nat) (e : TypeId) (w0 : World) (X : List Nat) (w : World) (so : Option (Nat × Nat)) (K : List α) : Prop where
  row : Row enc u e w so K
  fr : ∀ b, blkOf so b → w0.heap.size ≤ b ∧ b ∉ X
theorem BL.nil {α : Type} (enc : α → List Value) (u : Nat) (e : TypeId) (w0 : World) (X : List Nat) (w : World) : BL enc u e w0 X w none [] := ⟨rfl, by rintro b ⟨cap, h⟩; cases h⟩
theorem BL.ext {α : Type} {enc : α → List Value} {u : Nat} {e : TypeId} {w0 : World} {X : List Nat} {w w' : World} {so : Option (Nat × Nat)} {K : List α} (h : BL enc u e w0 X w so K) (he : Ext w w') : BL enc u e w0 X w' so K := ⟨h.row.ext he, h.fr⟩
theorem BL.cons {α : Type} {enc : α → List Value} {u : Nat} {e : TypeId} {w0 : World} {X : List Nat} {w : World} {so : Option (Nat × Nat)} {K : List α} (h : BL enc u e w0 X w so K) {b : Nat} (hb : w.heap.size ≤ b) : BL enc u e w0 (b :: X) w so K :=
  ⟨h.row, fun b' hb' => ⟨(h.fr b' hb').1, by
    have h1 := h.row.lt hb'
    have h2 := (h.fr b' hb').2
    simp only [List.mem_cons, al_no]
    exact ⟨by omega, h2⟩⟩⟩
theorem BL.tail {α : Type} {enc : α → List Value} {u : Nat} {e : TypeId} {w0 : World} {X Y : List Nat} {w : World} {so : Option (Nat × Nat)} {K : List α} (h : BL enc u e w0 X w so K) (hY : ∀ b ∈ Y, b ∈ X) : BL enc u e w0 Y w so K :=
  ⟨h.row, fun b' hb' => ⟨(h.fr b' hb').1, fun h2 => (h.fr b' hb').2 (hY _ h2)⟩⟩
/-- a block that is not the list's own is set -/
theorem BL.set {α : Type} {enc : α → List Value} {u : Nat} {e : TypeId} {w0 : World} {X : List Nat} {w : World} {so : Option (Nat × Nat)} {K : List α} (h : BL enc u e w0 X w so K) {b : Nat} (hb : b ∈ X ∨ b < w0.heap.size) (o : Obj) : BL enc u e w0 X (setB w b o) so K :=
  ⟨h.row.keep fun b' cap o' he hh => hh.set (fun e => by
    have := h.fr b' ⟨cap, he⟩
    rcases hb with hb | hb
    · exact this.2 (e ▸ hb)
    · omega), h.fr⟩
theorem BL.pl [Om] {α : Type} {enc : α → List Value} {u : Nat} {e : TypeId} {w0 : World} {X : List Nat} {w : World} {so : Option (Nat × Nat)} {K : List α} (h : BL enc u e w0 X w so K) (hO : OmB w0) : PL enc u e w (slp so, K.length, slc so) K :=
  PL.of_row hO h.row fun b hb => (h.fr b hb).1
section
variable {P : Program} {ops : Array Oper} {Q : Post} {t ty : TypeId} {pos : String} {af : Array Edge} {os : List Oper} {ρ : Nat → Value} {w w0 : World} {xo yo : Operand} {d : Nat}
theorem WO_app {α : Type} {enc : α → List Value} {u B : Nat} {e : TypeId} {X : List Nat} {so : Option (Nat × Nat)} {K : List α} (x : α) {b1 : Nat} {T1 : TypeId} {fz : Nat × Nat} (ha : AppI enc u e t B) (hB : BL enc u e w0 X w so K) (hE : Ext w0 w) (hX : ∀ b ∈ X, b < w.heap.size) (hl : K.length ≤ 1000000000)
    (hxl : (enc x).length = u) (hsrc : Hb w b1 (.cells (enc x).toArray T1 fz)) (hx : ev ρ xo = .slice (slp so) K.length (slc so)) (hy : ev ρ yo = .slice (some ⟨b1, 0, none⟩) 1 1)
    (h : ∀ so' w', BL enc u e w0 X w' so' (K ++ [x]) → Ext w0 w' → (∀ b o, b ∈ X → Hb w b o → Hb w' b o) → w.heap.size ≤ w'.heap.size → WO Hvac.prog ops Q os (upd ρ d (.slice (slp so') (K ++ [x]).length (slc so'))) w') :
    WO Hvac.prog ops Q (⟨some d, .call ⟨.builtin .append, #[xo, yo], #[t, t]⟩, ty, pos, af, none⟩ :: os) ρ w := by
  obtain ⟨i, z, hi, hz, hs, hby, hzs⟩ := ha.hi
  have hb8 : (K.length + 1) * B ≤ 140737488355328 := by
    have h1 : (K.length + 1) * B ≤ 1000000001 * 1000 := Nat.mul_le_mul (by omega) ha.hB
    omega
  obtain ⟨s', w', hr, hrow, hk, hb⟩ := run_append_row (rt := ty) ha.ht hi hz hs hby hzs hB.row hxl (ha.one x) hsrc hb8 (by omega)
  refine WO_append hx hy hr ?_
  have hE' : Ext w0 w' := ext_app hE hk fun b hb => (hB.fr b hb).1
  have := h s' w' ⟨hrow, fun b hbb => by
    rcases hb b hbb with h1 | h1
    · exact hB.fr b h1
    · exact ⟨Nat.le_trans hE.1 h1, fun h2 => by have := hX b h2; omega⟩⟩ hE' (fun b o hbX hh => hh.keepO hk fun h1 => (hB.fr b h1).2 hbX) hk.sz
  rw [show (K ++ [x]).length = K.length + 1 by simp] at this
  exact this
end
theorem ap_YA : AppI encYA 24 104 89 120 := ⟨Hvac.underlying89, ⟨Hvac.t104, _, info104, rfl, rfl, rfl, rfl⟩, one_YA, by decide⟩
end Go.Proofs.YgvacwGreat
