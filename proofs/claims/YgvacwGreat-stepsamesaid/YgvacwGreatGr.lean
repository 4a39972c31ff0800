import Derived.Test.YgvacwGreatGq
namespace Go.Proofs.YgvacwGreat
set_option linter.unusedSimpArgs false
set_option linter.unusedVariables false
/-! a frame is turned -/
theorem Ce.setNe {r : Array Value} {i j : Nat} {u v : Value} (h : Ce r j v) (hij : i ≠ j) : Ce (r.setIfInBounds i u) j v := ⟨by rw [Array.getElem?_setIfInBounds, if_neg hij]; exact h.h⟩
theorem Ce.setEq {r : Array Value} {i : Nat} {u : Value} (h : i < r.size) : Ce (r.setIfInBounds i u) i u := ⟨by rw [Array.getElem?_setIfInBounds, if_pos rfl, if_pos h]⟩
theorem Xt.setOut {r e : Array Value} {i a b : Nat} {u : Value} (h : Xt r a b e) (hi : i < a ∨ b ≤ i) : Xt (r.setIfInBounds i u) a b e := ⟨by
  rw [← h.h]
  refine Array.ext_getElem? fun j => ?_
  rw [Array.getElem?_extract, Array.getElem?_extract, Array.size_setIfInBounds]
  split
  · rw [Array.getElem?_setIfInBounds, if_neg (by omega)]
  · rfl⟩
/-- only the frame at fo is another, and it is x' -/
structure FT (r : Array Value) (fo : Nat) (r' : Array Value) (x' : YFr) : Prop where
  size : r'.size = r.size
  out : ∀ j, j < fo ∨ fo + 60 ≤ j → r'[j]? = r[j]?
  fc : FC r' fo x'
theorem FT.refl {r : Array Value} {fo : Nat} {x : YFr} (h : FC r fo x) : FT r fo r x := ⟨rfl, fun _ _ => rfl, h⟩
theorem FT.trans {r r' r2 : Array Value} {fo : Nat} {x x2 : YFr} (h : FT r fo r' x) (h2 : FT r' fo r2 x2) : FT r fo r2 x2 := ⟨h2.size.trans h.size, fun j hj => (h2.out j hj).trans (h.out j hj), h2.fc⟩

theorem FC.pc_ {r : Array Value} {fo : Nat} {x : YFr} (h : FC r fo x) (s : SV) : FT r fo (r.setIfInBounds (fo + 3) (.slice s.1 s.2.1 s.2.2)) { x with pc := s } :=
  ⟨by simp, fun j hj => by rw [Array.getElem?_setIfInBounds, if_neg (by omega)], ⟨by simpa using h.size, h.kind.setNe (by omega), h.nat.setNe (by omega), h.statY.setNe (by omega), Ce.setEq (by have := h.size; omega), h.gas.setNe (by omega), h.value.setNe (by omega), h.outOff.setNe (by omega), h.outLen.setNe (by omega), h.stack.setNe (by omega), h.mem.setNe (by omega), h.code.setNe (by omega), h.inputY.setNe (by omega), h.self.setOut (by omega), h.caller.setOut (by omega), h.saved.setOut (by omega)⟩⟩
theorem FC.gas_ {r : Array Value} {fo : Nat} {x : YFr} (h : FC r fo x) (s : SV) : FT r fo (r.setIfInBounds (fo + 4) (.slice s.1 s.2.1 s.2.2)) { x with gas := s } :=
  ⟨by simp, fun j hj => by rw [Array.getElem?_setIfInBounds, if_neg (by omega)], ⟨by simpa using h.size, h.kind.setNe (by omega), h.nat.setNe (by omega), h.statY.setNe (by omega), h.pc.setNe (by omega), Ce.setEq (by have := h.size; omega), h.value.setNe (by omega), h.outOff.setNe (by omega), h.outLen.setNe (by omega), h.stack.setNe (by omega), h.mem.setNe (by omega), h.code.setNe (by omega), h.inputY.setNe (by omega), h.self.setOut (by omega), h.caller.setOut (by omega), h.saved.setOut (by omega)⟩⟩
theorem FC.outOff_ {r : Array Value} {fo : Nat} {x : YFr} (h : FC r fo x) (s : SV) : FT r fo (r.setIfInBounds (fo + 6) (.slice s.1 s.2.1 s.2.2)) { x with outOff := s } :=
  ⟨by simp, fun j hj => by rw [Array.getElem?_setIfInBounds, if_neg (by omega)], ⟨by simpa using h.size, h.kind.setNe (by omega), h.nat.setNe (by omega), h.statY.setNe (by omega), h.pc.setNe (by omega), h.gas.setNe (by omega), h.value.setNe (by omega), Ce.setEq (by have := h.size; omega), h.outLen.setNe (by omega), h.stack.setNe (by omega), h.mem.setNe (by omega), h.code.setNe (by omega), h.inputY.setNe (by omega), h.self.setOut (by omega), h.caller.setOut (by omega), h.saved.setOut (by omega)⟩⟩
theorem FC.outLen_ {r : Array Value} {fo : Nat} {x : YFr} (h : FC r fo x) (s : SV) : FT r fo (r.setIfInBounds (fo + 7) (.slice s.1 s.2.1 s.2.2)) { x with outLen := s } :=
  ⟨by simp, fun j hj => by rw [Array.getElem?_setIfInBounds, if_neg (by omega)], ⟨by simpa using h.size, h.kind.setNe (by omega), h.nat.setNe (by omega), h.statY.setNe (by omega), h.pc.setNe (by omega), h.gas.setNe (by omega), h.value.setNe (by omega), h.outOff.setNe (by omega), Ce.setEq (by have := h.size; omega), h.stack.setNe (by omega), h.mem.setNe (by omega), h.code.setNe (by omega), h.inputY.setNe (by omega), h.self.setOut (by omega), h.caller.setOut (by omega), h.saved.setOut (by omega)⟩⟩
theorem FC.stack_ {r : Array Value} {fo : Nat} {x : YFr} (h : FC r fo x) (s : SV) : FT r fo (r.setIfInBounds (fo + 8) (.slice s.1 s.2.1 s.2.2)) { x with stack := s } :=
  ⟨by simp, fun j hj => by rw [Array.getElem?_setIfInBounds, if_neg (by omega)], ⟨by simpa using h.size, h.kind.setNe (by omega), h.nat.setNe (by omega), h.statY.setNe (by omega), h.pc.setNe (by omega), h.gas.setNe (by omega), h.value.setNe (by omega), h.outOff.setNe (by omega), h.outLen.setNe (by omega), Ce.setEq (by have := h.size; omega), h.mem.setNe (by omega), h.code.setNe (by omega), h.inputY.setNe (by omega), h.self.setOut (by omega), h.caller.setOut (by omega), h.saved.setOut (by omega)⟩⟩
theorem FC.mem_ {r : Array Value} {fo : Nat} {x : YFr} (h : FC r fo x) (s : SV) : FT r fo (r.setIfInBounds (fo + 9) (.slice s.1 s.2.1 s.2.2)) { x with mem := s } :=
  ⟨by simp, fun j hj => by rw [Array.getElem?_setIfInBounds, if_neg (by omega)], ⟨by simpa using h.size, h.kind.setNe (by omega), h.nat.setNe (by omega), h.statY.setNe (by omega), h.pc.setNe (by omega), h.gas.setNe (by omega), h.value.setNe (by omega), h.outOff.setNe (by omega), h.outLen.setNe (by omega), h.stack.setNe (by omega), Ce.setEq (by have := h.size; omega), h.code.setNe (by omega), h.inputY.setNe (by omega), h.self.setOut (by omega), h.caller.setOut (by omega), h.saved.setOut (by omega)⟩⟩
end Go.Proofs.YgvacwGreat
