import Derived.Test.YgvadwGreatFwA
import Derived.Laws.Cells
import Derived.Laws.World
import Derived.Laws.Sem
import Derived.Laws.Bits64
set_option linter.unusedSimpArgs false
set_option linter.unusedVariables false
namespace Go.Proofs.YgvadwGreat

/-! memory by blocks -/
def hp (w : World) (b : Nat) : Option Obj := w.heap[b]?
def setB (w : World) (b : Nat) (o : Obj) : World := { w with heap := w.heap.setIfInBounds b o }

theorem hp_lt {w : World} {b : Nat} {o : Obj} (h : hp w b = some o) : b < w.heap.size := by
  rcases Nat.lt_or_ge b w.heap.size with h' | h'
  · exact h'
  · simp [hp, Array.getElem?_eq_none h'] at h
theorem hp_alloc_new (w : World) (o : Obj) : hp (w.alloc o) w.heap.size = some o := by show (w.heap.push o)[w.heap.size]? = some o; simp
theorem hp_alloc_old {w : World} {b : Nat} (o : Obj) (h : b < w.heap.size) : hp (w.alloc o) b = hp w b := by
  show (w.heap.push o)[b]? = w.heap[b]?; simp [Array.getElem?_push, Nat.ne_of_lt h]
theorem keep_alloc {w : World} {b : Nat} {o o' : Obj} (h : hp w b = some o) : hp (w.alloc o') b = some o := by rw [hp_alloc_old o' (hp_lt h)]; exact h
theorem hp_drew (w : World) (b : Nat) : hp w.drew b = hp w b := rfl
theorem keep_drew {w : World} {b : Nat} {o : Obj} (h : hp w b = some o) : hp w.drew b = some o := h
theorem hp_setB_same {w : World} {b : Nat} (o : Obj) (h : b < w.heap.size) : hp (setB w b o) b = some o := by simp [hp, setB, h]
theorem hp_setB_ne {w : World} {b b' : Nat} (o : Obj) (h : b ≠ b') : hp (setB w b o) b' = hp w b' := by simp [hp, setB, h]
theorem keep_setB_same {w : World} {b : Nat} {o o' : Obj} (h : hp w b = some o) : hp (setB w b o') b = some o' := hp_setB_same o' (hp_lt h)
theorem keep_setB {w : World} {b b' : Nat} {o o' : Obj} (h : hp w b' = some o) (hne : b ≠ b') : hp (setB w b o') b' = some o := by rw [hp_setB_ne o' hne]; exact h
theorem size_setB (w : World) (b : Nat) (o : Obj) : (setB w b o).heap.size = w.heap.size := by simp [setB]
theorem size_alloc (w : World) (o : Obj) : (w.alloc o).heap.size = w.heap.size + 1 := World.size_alloc w o
theorem size_drew (w : World) : w.drew.heap.size = w.heap.size := rfl

theorem add_mk (b o n : Nat) : (Addr.mk b o none).add n = ⟨b, o + n, none⟩ := by
  unfold Addr.add; split
  · subst_vars; rfl
  · rfl

theorem cell_hp {w : World} {b o : Nat} {c : Array Value} {T : TypeId} {fz : Nat × Nat} (h : hp w b = some (.cells c T fz)) : w.cell? ⟨b, o, none⟩ = c[o]? := by
  simp only [hp] at h; simp [World.cell?, h]
theorem frozen_hp {w : World} {b o : Nat} {c : Array Value} {T : TypeId} (h : hp w b = some (.cells c T (0, 0))) : w.frozen? ⟨b, o, none⟩ = false := by
  simp only [hp] at h; simp [World.frozen?, h]
theorem setCell_hp {w : World} {b o : Nat} {c : Array Value} {T : TypeId} {fz : Nat × Nat} {v : Value} (h : hp w b = some (.cells c T fz)) :
    w.setCell ⟨b, o, none⟩ v = setB w b (.cells (c.setIfInBounds o v) T fz) := by
  have hb := hp_lt h
  simp only [hp] at h
  have h' : w.heap[b] = .cells c T fz := by simpa [hb] using h
  simp only [World.setCell, setB]
  congr 1
  refine Array.ext (by simp) ?_
  intro i h1 h2
  by_cases hi : b = i
  · subst hi; simp [Array.getElem_modify, h']
  · simp [Array.getElem_modify, hi, Array.getElem_setIfInBounds_ne (by simpa using h1) hi]

def splice (c : Array Value) (o : Nat) : List Value → Array Value
  | [] => c
  | v :: vs => splice (c.setIfInBounds o v) (o + 1) vs
theorem size_splice (o : Nat) (vs : List Value) (c : Array Value) : (splice c o vs).size = c.size := by
  induction vs generalizing c o with
  | nil => rfl
  | cons v vs ih => simp [splice, ih]
theorem setB_setB (w : World) (b : Nat) (o o' : Obj) : setB (setB w b o) b o' = setB w b o' := by
  simp only [setB]
  congr 1
  refine Array.ext (by simp) ?_
  intro i h1 h2
  by_cases hi : b = i
  · subst hi; simp
  · simp at h1; rw [Array.getElem_setIfInBounds_ne (by simpa using h1) hi, Array.getElem_setIfInBounds_ne (by simpa using h1) hi, Array.getElem_setIfInBounds_ne (by simpa using h1) hi]

section
variable {P : Program} {w : World}
theorem run_loadCells_hp {b o n : Nat} {c : Array Value} {T : TypeId} {fz : Nat × Nat} (h : hp w b = some (.cells c T fz)) (hn : o + n ≤ c.size) :
    (loadCells ⟨b, o, none⟩ n).run P w = .ok (c.extract o (o + n)) w := by
  rw [run_loadCells w ⟨b, o, none⟩ n (fun j => (c[o + j]?).getD undef)]
  · congr 1
    refine Array.ext (by simp; omega) ?_
    intro i h1 h2
    simp at h1
    simp [show o + i < c.size by omega]
  · intro j hj
    rw [add_mk, cell_hp h]
    simp [show o + j < c.size by omega]

theorem run_storeCells_hp {b : Nat} {T : TypeId} : ∀ (vs : List Value) (c : Array Value) (o i : Nat) (w : World), hp w b = some (.cells c T (0, 0)) → o + i + vs.length ≤ c.size → (∀ v ∈ vs, v.oneCell' = true) →
    (storeCells ⟨b, o, none⟩ vs i).run P w = .ok () (setB w b (.cells (splice c (o + i) vs) T (0, 0))) := by
  intro vs
  induction vs with
  | nil =>
    intro c o i w h _ _
    simp only [storeCells, splice]
    have : setB w b (.cells c T (0, 0)) = w := by
      have hb := hp_lt h
      simp only [hp] at h
      have h' : w.heap[b] = .cells c T (0, 0) := by simpa [hb] using h
      simp only [setB]
      have : w.heap.setIfInBounds b (.cells c T (0, 0)) = w.heap := by
        refine Array.ext (by simp) ?_
        intro i h1 h2
        by_cases hi : b = i
        · subst hi; simp [h']
        · rw [Array.getElem_setIfInBounds_ne h2 hi]
      rw [this]
    rw [this]; rfl
  | cons v vs ih =>
    intro c o i w h hn hv
    simp only [List.length_cons] at hn
    have h1 : v.oneCell' = true := hv v (by simp)
    have hc : w.cell? ⟨b, o + i, none⟩ = some c[o + i] := by rw [cell_hp h]; simp
    have hlt : o + i < c.size := by omega
    simp only [storeCells, splice]
    rw [Sem.run_bind, add_mk, run_store P w _ v _ h1, hc]
    simp only [frozen_hp h, Bool.false_eq_true, al_i0, Result.andThen_ok]
    rw [setCell_hp h, ih (c.setIfInBounds (o + i) v) o (i + 1) _ (keep_setB_same h) (by simp; omega) (fun u hu => hv u (by simp [hu]))]
    rw [setB_setB, Nat.add_assoc]
end

/-! the operations -/
section
variable {P : Program} {ops : Array Oper} {Q : Post} {d : Nat} {t ty : TypeId} {pos : String} {af : Array Edge} {os : List Oper} {ρ : Nat → Value} {w : World}

/-! memory operations -/
theorem WO_load {x : Operand} {b o : Nat} {c : Array Value} {T : TypeId} {fz : Nat × Nat} (v : Value) (hA : ∀ w, (isAgg t).run P w = .ok false w) (hx : ev ρ x = .pointer (some ⟨b, o, none⟩))
    (hb : hp w b = some (.cells c T fz)) (hc : c[o]? = some v) (h : WO P ops Q os (upd ρ d v) w) : WO P ops Q (⟨some d, .load t x, ty, pos, af, none⟩ :: os) ρ w := by
  refine WO_cons ?_
  simp only [stepo, execOp, hx, Instr.loadAt, Instr.sureAddr, loadVar, Sem.run_bind, Sem.run_pure, Result.andThen_ok, hA, Bool.false_eq_true, al_i0, run_load, cell_hp hb, hc]; exact h
theorem WO_loadA {x : Operand} {b o k : Nat} {c : Array Value} {T : TypeId} {fz : Nat × Nat} (cs : Array Value) (hA : ∀ w, (isAgg t).run P w = .ok true w) (hS : ∀ w, (Go.sizeOf t).run P w = .ok k w)
    (hx : ev ρ x = .pointer (some ⟨b, o, none⟩)) (hb : hp w b = some (.cells c T fz)) (hk : o + k ≤ c.size) (hc : c.extract o (o + k) = cs) (h : WO P ops Q os (upd ρ d (.agg cs)) w) :
    WO P ops Q (⟨some d, .load t x, ty, pos, af, none⟩ :: os) ρ w := by
  subst hc
  refine WO_cons ?_
  simp only [stepo, execOp, hx, Instr.loadAt, Instr.sureAddr, loadVar, Sem.run_bind, Sem.run_pure, Result.andThen_ok, hA, hS, if_true, run_loadCells_hp hb hk]; exact h
theorem WO_store {x y : Operand} {b o k : Nat} {c : Array Value} {T : TypeId} {v : Value} (hS : ∀ w, (Go.sizeOf t).run P w = .ok k w) (hx : ev ρ x = .pointer (some ⟨b, o, none⟩)) (hy : ev ρ y = v)
    (hb : hp w b = some (.cells c T (0, 0))) (hs : v.cells.size = k) (hk : o + k ≤ c.size) (hv : ∀ u ∈ v.cells.toList, u.oneCell' = true)
    (h : WO P ops Q os ρ (setB w b (.cells (splice c o v.cells.toList) T (0, 0)))) : WO P ops Q (⟨none, .store t x y, ty, pos, af, none⟩ :: os) ρ w := by
  subst hy
  refine WO_cons ?_
  have hr := run_storeCells_hp (P := P) (ev ρ y).cells.toList c o 0 w hb (by simp; omega) hv
  simp only [Nat.add_zero] at hr
  simp only [stepo, execOp, hx, Instr.storeAt, Instr.sureAddr, storeVar, Sem.run_bind, Sem.run_pure, Result.andThen_ok, hS, hs, al_ne, al_nt, al_i0, hr]; exact h
theorem WO_box {x : Operand} (hx : Value) (hev : ev ρ x = hx) (h : WO P ops Q os (upd ρ d (.pointer (some ⟨w.heap.size, 0, none⟩))) (w.alloc (.cells hx.cells t))) :
    WO P ops Q (⟨some d, .box t x, ty, pos, af, none⟩ :: os) ρ w := by
  subst hev
  exact WO_cons h
theorem WO_alloc {z : Value} (hz : ∀ w, (zeroValue t).run P w = .ok z w) (h : WO P ops Q os (upd ρ d (.pointer (some ⟨w.heap.size, 0, none⟩))) (w.alloc (.cells z.cells t))) :
    WO P ops Q (⟨some d, .alloc t, ty, pos, af, none⟩ :: os) ρ w := by
  refine WO_cons ?_
  simp only [stepo, execOp, Instr.alloc, newVar, newRow, Sem.run_bind, Sem.run_pure, Result.andThen_ok, hz, run_newObj]; exact h
theorem WO_call {f : FuncId} {l : List Operand} {ts : Array TypeId} {vs : List Value} (hc : ∀ (args : Array Value) (w : World), (callFunc f args).run P w = .ok (.enter f args) w)
    (hv : l.map (ev ρ) = vs) (h : Ret P f vs.toArray w (fun v w' => WO P ops Q os (upd ρ d v) w')) : WO P ops Q (⟨some d, .call ⟨.value (.func f), l.toArray, ts⟩, ty, pos, af, none⟩ :: os) ρ w := by
  subst hv
  refine WO_cons ?_
  have e1 : (#[] : Array Value) ++ Array.map (ev ρ) l.toArray ++ #[] = (l.map (ev ρ)).toArray := by simp
  simp only [stepo, execOp, resolve, ev, Deferred.ofValue, Sem.run_bind, Sem.run_pure, Result.andThen_ok, invoke, e1, hc]; exact h.run
end
end Go.Proofs.YgvadwGreat
