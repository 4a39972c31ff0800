import Derived.Test.YgvadwGreatFwC
set_option linter.unusedSimpArgs false
set_option linter.unusedVariables false
namespace Go.Proofs.YgvadwGreat
section
variable {P : Program} {ops : Array Oper} {Q : Post} {d : Nat} {t yt ty : TypeId} {pos : String} {af : Array Edge} {os : List Oper} {ρ : Nat → Value} {w : World} {x y c : Operand}

/-- an operation under a guard: it is wanted -/
theorem WO_guardT {dd : Option Nat} {op : Op} {j tt : Nat} {want b : Bool} (hj : (ops[j]?).bind (·.dst) = some tt) (hb : ρ tt = .bool b) (hw : b = want)
    (h : WO P ops Q (⟨dd, op, ty, pos, af, none⟩ :: os) ρ w) : WO P ops Q (⟨dd, op, ty, pos, af, some (j, want)⟩ :: os) ρ w := by
  have h := h.run
  refine ⟨?_⟩
  simp only [WO0, wanted, hj, hb, hw, al_ss, if_true] at h ⊢; exact h
/-- .. it is not -/
theorem WO_guardF {dd : Option Nat} {op : Op} {j tt : Nat} {want b : Bool} (hj : (ops[j]?).bind (·.dst) = some tt) (hb : ρ tt = .bool b) (hw : b = !want)
    (h : WO P ops Q os (updo ρ dd undef) w) : WO P ops Q (⟨dd, op, ty, pos, af, some (j, want)⟩ :: os) ρ w := by
  subst hw
  have : ((!want) == want) = false := by cases want <;> rfl
  refine ⟨?_⟩
  simp only [WO0, wanted, hj, hb, this, Bool.false_eq_true, al_i0]; exact h.run
theorem WO_split (b : Bool) (ht : b = true → WO P ops Q os ρ w) (hf : b = false → WO P ops Q os ρ w) : WO P ops Q os ρ w := by
  cases b
  · exact hf rfl
  · exact ht rfl
theorem WO_splitB {b : Bool} {t : Nat} (_hv : ρ t = .bool b) (ht : b = true → WO P ops Q os ρ w) (hf : b = false → WO P ops Q os ρ w) : WO P ops Q os ρ w := WO_split b ht hf
theorem W_condT {n : Nat} {cc : Operand} {xx yy : Code} {b : Bool} (hc : ev ρ cc = .bool b) (hb : b = true) (h : W P n xx Q ρ w) : W P n (.cond cc xx yy) Q ρ w :=
  W_cond hc (fun _ => h) (fun h' => by rw [hb] at h'; cases h')
theorem W_condF {n : Nat} {cc : Operand} {xx yy : Code} {b : Bool} (hc : ev ρ cc = .bool b) (hb : b = false) (h : W P n yy Q ρ w) : W P n (.cond cc xx yy) Q ρ w :=
  W_cond hc (fun h' => by rw [hb] at h'; cases h') (fun _ => h)
theorem WO_callX {f : FuncId} {l : List Operand} {ts : Array TypeId} {vs : List Value} {v : Value} (hv : l.map (ev ρ) = vs) (hc : (callFunc f vs.toArray).run P w = .ok (.value v) w)
    (h : WO P ops Q os (upd ρ d v) w) : WO P ops Q (⟨some d, .call ⟨.value (.func f), l.toArray, ts⟩, ty, pos, af, none⟩ :: os) ρ w := by
  subst hv
  refine WO_cons ?_
  have e1 : (#[] : Array Value) ++ Array.map (ev ρ) l.toArray ++ #[] = (l.map (ev ρ)).toArray := by simp
  simp only [stepo, execOp, resolve, ev, Deferred.ofValue, Sem.run_bind, Sem.run_pure, Result.andThen_ok, invoke, e1, hc]; exact h
theorem WO_nilK {K : (Nat → Value) → World → Prop} (h : K ρ w) : WO P ops (thn K Q) [] ρ w := ⟨h⟩
theorem thn_normal {K : (Nat → Value) → World → Prop} (h : K ρ w) : thn K Q .normal ρ w := h
theorem thn_ret {K : (Nat → Value) → World → Prop} (h : Q .ret ρ w) : thn K Q .ret ρ w := h
theorem thn_exit {K : (Nat → Value) → World → Prop} {id : Nat} (h : Q (.exit id) ρ w) : thn K Q (.exit id) ρ w := h
theorem inBlk_normal {id : Nat} (h : Q .normal ρ w) : inBlk id Q .normal ρ w := h
theorem inBlk_ret {id : Nat} (h : Q .ret ρ w) : inBlk id Q .ret ρ w := h
theorem inBlk_exit {id : Nat} (h : Q .normal ρ w) : inBlk id Q (.exit id) ρ w := by simp only [inBlk, if_true]; exact h
end

section
variable {P : Program} {fn : Func} {n : Nat} {R : Value → World → Prop} {ρ : Nat → Value} {w : World}
theorem bodyQ_ret0 (hr : fn.results = #[]) (h : R (.tuple #[]) w) : bodyQ P fn n R .ret ρ w := ⟨_, by simp [results, hr], h⟩
theorem bodyQ_end0 (hr : fn.results = #[]) (h : R (.tuple #[]) w) : bodyQ P fn n R .normal ρ w := ⟨_, by simp [results, hr], h⟩
theorem getD_act {t : Nat} (ht : t < n) : (act n ρ).tmps.getD t undef = ρ t := by simp [act, ht, Array.getD]
theorem bodyQ_ret1 {t : Nat} (hr : fn.results = #[.tmp t]) (ht : Nat.ble (t+1) n = true) (v : Value) (hv : ρ t = v) (h : R v w) : bodyQ P fn n R .ret ρ w := by
  replace ht : t < n := Nat.le_of_ble_eq_true ht
  subst hv; exact ⟨_, by simp [results, hr, act, ht, Array.getD], h⟩
theorem bodyQ_ret2 {t u : Nat} (hr : fn.results = #[.tmp t, .tmp u]) (ht : Nat.ble (t+1) n = true) (hu : Nat.ble (u+1) n = true) (v v' : Value) (hv : ρ t = v) (hv' : ρ u = v') (h : R (.tuple #[v, v']) w) : bodyQ P fn n R .ret ρ w := by
  replace ht : t < n := Nat.le_of_ble_eq_true ht
  replace hu : u < n := Nat.le_of_ble_eq_true hu
  subst hv; subst hv'; exact ⟨_, by simp [results, hr, act, ht, hu, Array.getD], h⟩
theorem bodyQ_ret3 {t u s : Nat} (hr : fn.results = #[.tmp t, .tmp u, .tmp s]) (ht : Nat.ble (t+1) n = true) (hu : Nat.ble (u+1) n = true) (hs : Nat.ble (s+1) n = true) (v v' v'' : Value) (hv : ρ t = v) (hv' : ρ u = v') (hv'' : ρ s = v'') (h : R (.tuple #[v, v', v'']) w) : bodyQ P fn n R .ret ρ w := by
  replace ht : t < n := Nat.le_of_ble_eq_true ht
  replace hu : u < n := Nat.le_of_ble_eq_true hu
  replace hs : s < n := Nat.le_of_ble_eq_true hs
  subst hv; subst hv'; subst hv''; exact ⟨_, by simp [results, hr, act, ht, hu, hs, Array.getD], h⟩
theorem bodyQ_ret4 {t u s r : Nat} (hr : fn.results = #[.tmp t, .tmp u, .tmp s, .tmp r]) (ht : Nat.ble (t+1) n = true) (hu : Nat.ble (u+1) n = true) (hs : Nat.ble (s+1) n = true) (hr' : Nat.ble (r+1) n = true) (v v' v'' v3 : Value) (hv : ρ t = v) (hv' : ρ u = v') (hv'' : ρ s = v'') (hv3 : ρ r = v3) (h : R (.tuple #[v, v', v'', v3]) w) : bodyQ P fn n R .ret ρ w := by
  replace ht : t < n := Nat.le_of_ble_eq_true ht
  replace hu : u < n := Nat.le_of_ble_eq_true hu
  replace hs : s < n := Nat.le_of_ble_eq_true hs
  replace hr' : r < n := Nat.le_of_ble_eq_true hr'
  subst hv; subst hv'; subst hv''; subst hv3; exact ⟨_, by simp [results, hr, act, ht, hu, hs, hr', Array.getD], h⟩
/-- general: each result by its own run -/
theorem bodyQ_cell1 {t : Nat} {T : TypeId} {b : Nat} {k : Nat} {c : Array Value} {T' : TypeId} {fz : Nat × Nat} (hr : fn.results = #[.cell t T]) (ht : Nat.ble (t+1) n = true) (hA : ∀ w, (isAgg T).run P w = .ok true w) (hS : ∀ w, (Go.sizeOf T).run P w = .ok k w)
    (hv : ρ t = .pointer (some ⟨b, 0, none⟩)) (hb : hp w b = some (.cells c T' fz)) (hk : c.size = k) (h : R (.agg c) w) : bodyQ P fn n R .ret ρ w := by
  replace ht : t < n := Nat.le_of_ble_eq_true ht
  refine ⟨.agg c, ?_, h⟩
  have e : c.extract 0 (0 + k) = c := by subst hk; simp
  have hl := run_loadCells_hp (P := P) hb (o := 0) (n := k) (by omega)
  rw [e] at hl
  simp [results, hr, act, ht, Array.getD, hv, asAddr, loadVar, hA, hS, hl]
theorem bodyQ_cellT {t u : Nat} {T : TypeId} {b : Nat} {k : Nat} {c : Array Value} {T' : TypeId} {fz : Nat × Nat} (v : Value) (hr : fn.results = #[.cell t T, .tmp u]) (ht : Nat.ble (t+1) n = true) (hu : Nat.ble (u+1) n = true) (hA : ∀ w, (isAgg T).run P w = .ok true w) (hS : ∀ w, (Go.sizeOf T).run P w = .ok k w)
    (hv : ρ t = .pointer (some ⟨b, 0, none⟩)) (hb : hp w b = some (.cells c T' fz)) (hk : c.size = k) (hv' : ρ u = v) (h : R (.tuple #[.agg c, v]) w) : bodyQ P fn n R .ret ρ w := by
  replace ht : t < n := Nat.le_of_ble_eq_true ht
  replace hu : u < n := Nat.le_of_ble_eq_true hu
  subst hv'
  refine ⟨.tuple #[.agg c, ρ u], ?_, h⟩
  have e : c.extract 0 (0 + k) = c := by subst hk; simp
  have hl := run_loadCells_hp (P := P) hb (o := 0) (n := k) (by omega)
  rw [e] at hl
  simp [results, hr, act, ht, hu, Array.getD, hv, asAddr, loadVar, hA, hS, hl]
theorem bodyQ_cell2 {t u : Nat} {T T2 : TypeId} {b b2 : Nat} {k k2 : Nat} {c c2 : Array Value} {T' T2' : TypeId} {fz fz2 : Nat × Nat} (hr : fn.results = #[.cell t T, .cell u T2]) (ht : Nat.ble (t+1) n = true) (hu : Nat.ble (u+1) n = true)
    (hA : ∀ w, (isAgg T).run P w = .ok true w) (hS : ∀ w, (Go.sizeOf T).run P w = .ok k w) (hA2 : ∀ w, (isAgg T2).run P w = .ok true w) (hS2 : ∀ w, (Go.sizeOf T2).run P w = .ok k2 w)
    (hv : ρ t = .pointer (some ⟨b, 0, none⟩)) (hb : hp w b = some (.cells c T' fz)) (hk : c.size = k) (hv2 : ρ u = .pointer (some ⟨b2, 0, none⟩)) (hb2 : hp w b2 = some (.cells c2 T2' fz2)) (hk2 : c2.size = k2) (h : R (.tuple #[.agg c, .agg c2]) w) : bodyQ P fn n R .ret ρ w := by
  replace ht : t < n := Nat.le_of_ble_eq_true ht
  replace hu : u < n := Nat.le_of_ble_eq_true hu
  refine ⟨.tuple #[.agg c, .agg c2], ?_, h⟩
  have e : c.extract 0 (0 + k) = c := by subst hk; simp
  have hl := run_loadCells_hp (P := P) hb (o := 0) (n := k) (by omega)
  rw [e] at hl
  have e2 : c2.extract 0 (0 + k2) = c2 := by subst hk2; simp
  have hl2 := run_loadCells_hp (P := P) hb2 (o := 0) (n := k2) (by omega)
  rw [e2] at hl2
  simp [results, hr, act, ht, hu, Array.getD, hv, hv2, asAddr, loadVar, hA, hS, hl, hA2, hS2, hl2]
end
end Go.Proofs.YgvadwGreat
