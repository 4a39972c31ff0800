import Derived.Test.YgvacwGreatOl
namespace Go.Proofs.YgvacwGreat
set_option linter.unusedSimpArgs false
set_option linter.unusedVariables false
/-! bytes of slices -/
def byteOf : Value → Int
  | .int _ x => x
  | _ => 0
def rdC (w : World) (s : SV) : Array Value := match s.1 with
  | none => #[]
  | some a => match hp w a.block with
    | some (.cells r _ _) => r
    | _ => #[]
def rdB (w : World) (s : SV) : List Int := ((rdC w s).toList.take s.2.1).map byteOf
theorem BX.rd [Om] {w : World} {β : Option Nat} {s : SV} {L : List Int} (h : BX w β s L) : rdB w s = L := by
  unfold rdB rdC
  rcases h with ⟨h1, h2, h3⟩ | ⟨b, r, fz, h1, h2, h3, h4, h5, h6, h7⟩
  · rw [h1, h2, h3]; rfl
  · rw [h1]
    simp only
    rw [h3.h]
    simp only
    refine List.ext_getElem? fun i => ?_
    rw [List.getElem?_map, List.getElem?_take]
    split
    · rename_i hi
      rw [Array.getElem?_toList, h7 i hi]
      cases L[i]? <;> rfl
    · rename_i hi
      rw [List.getElem?_eq_none (by omega)]; rfl
theorem BS.rd [Om] {w : World} {β : Option Nat} {s : SV} (h : BS w β s) : BX w β s (rdB w s) := by
  obtain ⟨L, hL⟩ := h.bx
  rw [hL.rd]; exact hL
theorem rdB_nil (w : World) (n c : Nat) : rdB w (none, n, c) = [] := by unfold rdB rdC; simp
theorem BS.rdk [Om] {w w' : World} {C : Nat} {c : Array Value} {v : V} {B B' : VB} {m m' : Mc} {s : SV} (h : BS w (bb m) s) (hM : MS w C c v B m) (hS : MStep w w' C B m B' m') : rdB w' s = rdB w s := (BX.mstep hM hS h.rd).rd
theorem BS.rde [Om] {w w' : World} {β : Option Nat} {s : SV} (h : BS w β s) (hE : Ext w w') : rdB w' s = rdB w s := (h.rd.ext hE).rd
end Go.Proofs.YgvacwGreat
