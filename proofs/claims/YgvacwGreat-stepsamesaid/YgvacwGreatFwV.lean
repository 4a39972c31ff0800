import Derived.Test.YgvacwGreatFwJ
namespace Go.Proofs.YgvacwGreat
set_option linter.unusedSimpArgs false
set_option linter.unusedVariables false
/-! slices built of plain values -/
section
variable {P : Program} {t e : TypeId}
theorem run_buildSliceV {size : Nat} {z v : Value} (w : World) (hU : ∀ w, (underlying t).run P w = .ok (.slice e) w) (hS : ∀ w, (Go.sizeOf e).run P w = .ok size w) (hz : ∀ w, (zeroValue e).run P w = .ok z w)
    (hcs : v.cells.size = size) (h0 : 0 < size) (h1 : size ≤ 16777216) :
    (Instr.buildSlice t 1 #[(0, v)]).run P w = .ok (.slice (some ⟨w.heap.size, 0, none⟩) 1 1) (w.alloc (.cells v.cells e)) := by
  have e0 : ¬ (1 * size > 2 ^ 24) := by omega
  have e1 : ¬ (1 * size = 0) := by omega
  have e2 : ((Array.range (1 * size)).map (fun i => z.cells[i % z.cells.size]!)).size = size := by simp
  have hf : Instr.fill (fun i => some (i * size, size)) ((Array.range (1 * size)).map (fun i => z.cells[i % z.cells.size]!)) [(0, v)] = some v.cells := by
    rw [fill_cons (i := 0) (v := v) (off := 0) (size := size) (by simp) hcs (by rw [e2]; omega)]
    simp only [Instr.fill]
    rw [splice_whole rfl (by simp [hcs])]
  simp only [Instr.buildSlice, hU, hS, hz, Sem.run_bind, Sem.run_pure, Result.andThen_ok, e0, e1, al_i0, Sem.run_ite, hf, newRow, run_newObj]
  rfl
theorem run_buildSliceV2 {z v v2 : Value} (w : World) (hU : ∀ w, (underlying t).run P w = .ok (.slice e) w) (hS : ∀ w, (Go.sizeOf e).run P w = .ok 1 w) (hz : ∀ w, (zeroValue e).run P w = .ok z w)
    (hcs : v.cells = #[v]) (hcs2 : v2.cells = #[v2]) :
    (Instr.buildSlice t 2 #[(0, v), (1, v2)]).run P w = .ok (.slice (some ⟨w.heap.size, 0, none⟩) 2 2) (w.alloc (.cells #[v, v2] e)) := by
  have e0 : ¬ (2 * 1 > 2 ^ 24) := by omega
  have e1 : ¬ (2 * 1 = 0) := by omega
  have hf : Instr.fill (fun i => some (i * 1, 1)) ((Array.range (2 * 1)).map (fun i => z.cells[i % z.cells.size]!)) [(0, v), (1, v2)] = some #[v, v2] := by
    rw [fill_cons (i := 0) (v := v) (off := 0) (size := 1) (by simp) (by rw [hcs]; rfl) (by simp)]
    rw [fill_cons (i := 1) (v := v2) (off := 1) (size := 1) (by simp) (by rw [hcs2]; rfl) (by rw [size_splice]; simp)]
    simp only [Instr.fill]
    rw [splice_list (by rw [size_splice]; simp [hcs2]), splice_list (by simp [hcs])]
    simp [hcs, hcs2]
  simp only [Instr.buildSlice, hU, hS, hz, Sem.run_bind, Sem.run_pure, Result.andThen_ok, e0, e1, al_i0, Sem.run_ite, hf, newRow, run_newObj]
  rfl
end
section
variable {P : Program} {ops : Array Oper} {Q : Post} {t e ty : TypeId} {pos : String} {af : Array Edge} {os : List Oper} {ρ : Nat → Value} {w : World} {x y : Operand} {d : Nat}
theorem WO_buildSliceV {size : Nat} {z : Value} (v : Value) (hU : ∀ w, (underlying t).run P w = .ok (.slice e) w) (hS : ∀ w, (Go.sizeOf e).run P w = .ok size w) (hz : ∀ w, (zeroValue e).run P w = .ok z w)
    (hx : ev ρ x = v) (hcs : v.cells.size = size) (h0 : 0 < size) (h1 : size ≤ 16777216)
    (h : WO P ops Q os (upd ρ d (.slice (some ⟨w.heap.size, 0, none⟩) 1 1)) (w.alloc (.cells v.cells e))) : WO P ops Q (⟨some d, .buildSlice t 1 #[(0, x)], ty, pos, af, none⟩ :: os) ρ w := by
  refine WO_cons ?_
  have hr := run_buildSliceV (P := P) (t := t) w hU hS hz hcs h0 h1
  have e1 : Array.map (fun x => (x.1, ev ρ x.2)) #[(0, x)] = #[(0, v)] := by simp [hx]
  simp only [stepo, execOp, e1, hr, Sem.run_bind, Sem.run_pure, Result.andThen_ok]; exact h
theorem WO_buildSliceV2 {z : Value} (v v2 : Value) (hU : ∀ w, (underlying t).run P w = .ok (.slice e) w) (hS : ∀ w, (Go.sizeOf e).run P w = .ok 1 w) (hz : ∀ w, (zeroValue e).run P w = .ok z w)
    (hx : ev ρ x = v) (hy : ev ρ y = v2) (hcs : v.cells = #[v]) (hcs2 : v2.cells = #[v2])
    (h : WO P ops Q os (upd ρ d (.slice (some ⟨w.heap.size, 0, none⟩) 2 2)) (w.alloc (.cells #[v, v2] e))) : WO P ops Q (⟨some d, .buildSlice t 2 #[(0, x), (1, y)], ty, pos, af, none⟩ :: os) ρ w := by
  refine WO_cons ?_
  have hr := run_buildSliceV2 (P := P) (t := t) w hU hS hz hcs hcs2
  have e1 : Array.map (fun x => (x.1, ev ρ x.2)) #[(0, x), (1, y)] = #[(0, v), (1, v2)] := by simp [hx, hy]
  simp only [stepo, execOp, e1, hr, Sem.run_bind, Sem.run_pure, Result.andThen_ok]; exact h
theorem WH_buildSliceV {S : World → Prop} {bb : Bool} {os' : List TOp} {size : Nat} {z : Value} (v : Value) (hU : ∀ w, (underlying t).run P w = .ok (.slice e) w) (hS : ∀ w, (Go.sizeOf e).run P w = .ok size w) (hz : ∀ w, (zeroValue e).run P w = .ok z w)
    (hx : ev ρ x = v) (hcs : v.cells.size = size) (h0 : 0 < size) (h1 : size ≤ 16777216) (hq : bb = true → S (w.alloc (.cells v.cells e)))
    (h : WH P ops S Q os' (upd ρ d (.slice (some ⟨w.heap.size, 0, none⟩) 1 1)) (w.alloc (.cells v.cells e))) : WH P ops S Q ((⟨some d, .buildSlice t 1 #[(0, x)], ty, pos, af, none⟩, bb) :: os') ρ w := by
  refine WH_loud rfl ?_
  have hr := run_buildSliceV (P := P) (t := t) w hU hS hz hcs h0 h1
  have e1 : Array.map (fun x => (x.1, ev ρ x.2)) #[(0, x)] = #[(0, v)] := by simp [hx]
  simp only [stepo, execOp, e1, hr, Sem.run_bind, Sem.run_pure, Result.andThen_ok]; exact ⟨hq, h⟩
end
section
variable {P : Program} {ρ : Nat → Value} {x : Operand}
theorem PS_field {s f : Nat} {fs : Array Field} {fl : Field} {c : Array Value} (v : Value) (off : Nat) (hU : ∀ w, (underlying s).run P w = .ok (.struct fs) w) (hf : fs[f]? = some fl) (hA : ∀ w, (isAgg fl.type).run P w = .ok false w) (ho : fl.offset = off)
    (hx : ev ρ x = .agg c) (hv : c[off]? = some v) : PS P (.field s x f) ρ v :=
  ⟨fun oo w h => by subst ho; simp only [execOp, h, hx, Instr.field, asAgg, part, Sem.run_bind, Sem.run_pure, Result.andThen_ok, hU, hf, hA, hv, Bool.false_eq_true, al_i0]⟩
end
end Go.Proofs.YgvacwGreat
