import Derived.Test.YgvadwGreatFwE
set_option linter.unusedSimpArgs false
set_option linter.unusedVariables false
namespace Go.Proofs.YgvadwGreat

/-- All old blocks are as they were. -/
structure Ext (w w' : World) : Prop where
  sz : w.heap.size ≤ w'.heap.size
  old : ∀ b, b < w.heap.size → hp w' b = hp w b
  en : w'.os = w.os ∧ w'.output = w.output ∧ w'.tape = w.tape
theorem Ext.refl (w : World) : Ext w w := ⟨Nat.le_refl _, fun _ _ => rfl, rfl, rfl, rfl⟩
theorem Ext.trans {a b c : World} (h : Ext a b) (h' : Ext b c) : Ext a c :=
  ⟨Nat.le_trans h.1 h'.1, fun x hx => (h'.2 x (Nat.lt_of_lt_of_le hx h.1)).trans (h.2 x hx), h'.3.1.trans h.3.1, h'.3.2.1.trans h.3.2.1, h'.3.2.2.trans h.3.2.2⟩
theorem Ext.alloc {a b : World} (h : Ext a b) (o : Obj) : Ext a (b.alloc o) :=
  h.trans ⟨by rw [size_alloc]; omega, fun x hx => hp_alloc_old o hx, rfl, rfl, rfl⟩
theorem Ext.drew {a b : World} (h : Ext a b) : Ext a b.drew := ⟨h.1, h.2, h.3⟩
theorem Ext.le {a b : World} (h : Ext a b) : a.heap.size ≤ b.heap.size := h.1
theorem Ext.setB {a b : World} (h : Ext a b) {x : Nat} (hx : a.heap.size ≤ x) (o : Obj) : Ext a (setB b x o) :=
  ⟨by rw [size_setB]; exact h.1, fun y hy => (hp_setB_ne o (by omega)).trans (h.2 y hy), h.3⟩
theorem keep_ext {w w' : World} {b : Nat} {o : Obj} (h : Ext w w') (hb : hp w b = some o) : hp w' b = some o := (h.2 b (hp_lt hb)).trans hb

/-- Old blocks that F does not name are as they were. -/
def Keep (F : Nat → TypeId → Prop) (w w' : World) : Prop :=
  w.heap.size ≤ w'.heap.size ∧ ∀ b, b < w.heap.size → (∀ c T fz, hp w b = some (.cells c T fz) → ¬ F b T) → hp w' b = hp w b
theorem Ext.keep {w w' : World} (h : Ext w w') (F : Nat → TypeId → Prop) : Keep F w w' := ⟨h.1, fun b hb _ => h.2 b hb⟩
theorem keep_keep {F : Nat → TypeId → Prop} {w w' : World} {b : Nat} {c : Array Value} {T : TypeId} {fz : Nat × Nat} (h : Keep F w w') (hb : hp w b = some (.cells c T fz)) (hF : ¬ F b T) : hp w' b = some (.cells c T fz) := by
  refine (h.2 b (hp_lt hb) ?_).trans hb
  intro c' T' fz' h'
  rw [hb] at h'
  cases h'
  exact hF

section
variable {P : Program} {ops : Array Oper} {S : World → Prop} {Q : Post} {d : Nat} {t yt ty : TypeId} {pos : String} {af : Array Edge} {os : List TOp} {ρ : Nat → Value} {w : World} {x y : Operand} {bb : Bool}

theorem WH_nil (h : Q .normal ρ w) : WH P ops S Q [] ρ w := ⟨h⟩
theorem WH_p {op : Op} {v : Value} (hp : PS P op ρ v) (hl : loudOp op = false) (h : WH P ops S Q os (upd ρ d v) w) : WH P ops S Q ((⟨some d, op, ty, pos, af, none⟩, bb) :: os) ρ w := by
  refine ⟨?_⟩
  simp only [WH0, wanted, if_true, hl, Bool.false_eq_true, al_i0]
  exact ⟨v, fun w' _ => hp.run ⟨some d, op, ty, pos, af, none⟩ w' rfl, h.run⟩
theorem WH_load0 {b o : Nat} (v : Value) (hA : ∀ w, (isAgg t).run P w = .ok false w) (hx : ev ρ x = .pointer (some ⟨b, o, none⟩))
    (hb : ∀ w', S w' → ∃ c T fz, hp w' b = some (.cells c T fz) ∧ c[o]? = some v) (h : WH P ops S Q os (upd ρ d v) w) : WH P ops S Q ((⟨some d, .load t x, ty, pos, af, none⟩, bb) :: os) ρ w := by
  refine ⟨?_⟩
  simp only [WH0, wanted, if_true, loudOp, Bool.false_eq_true, al_i0]
  refine ⟨v, fun w' hS => ?_, h.run⟩
  obtain ⟨c, T, fz, hb, hc⟩ := hb w' (hS rfl)
  simp only [execOp, hx, Instr.loadAt, Instr.sureAddr, loadVar, Sem.run_bind, Sem.run_pure, Result.andThen_ok, hA, Bool.false_eq_true, al_i0, run_load, cell_hp hb, hc]
theorem WH_loadA0 {b o k : Nat} (cs : Array Value) (hA : ∀ w, (isAgg t).run P w = .ok true w) (hS : ∀ w, (Go.sizeOf t).run P w = .ok k w)
    (hx : ev ρ x = .pointer (some ⟨b, o, none⟩)) (hb : ∀ w', S w' → ∃ c T fz, hp w' b = some (.cells c T fz) ∧ o + k ≤ c.size ∧ c.extract o (o + k) = cs) (h : WH P ops S Q os (upd ρ d (.agg cs)) w) :
    WH P ops S Q ((⟨some d, .load t x, ty, pos, af, none⟩, bb) :: os) ρ w := by
  refine ⟨?_⟩
  simp only [WH0, wanted, if_true, loudOp, Bool.false_eq_true, al_i0]
  refine ⟨.agg cs, fun w' hS' => ?_, h.run⟩
  obtain ⟨c, T, fz, hb1, hk, hcs⟩ := hb w' (hS' rfl)
  simp only [execOp, hx, Instr.loadAt, Instr.sureAddr, loadVar, Sem.run_bind, Sem.run_pure, Result.andThen_ok, hA, hS, if_true, run_loadCells_hp hb1 hk, hcs]
/-- held by 'all blocks of w0 stand' -/
theorem WH_load {w0 : World} {b o : Nat} {c : Array Value} {T : TypeId} {fz : Nat × Nat} (v : Value) (hA : ∀ w, (isAgg t).run P w = .ok false w) (hx : ev ρ x = .pointer (some ⟨b, o, none⟩))
    (hb : hp w0 b = some (.cells c T fz)) (hc : c[o]? = some v) (h : WH P ops (Ext w0) Q os (upd ρ d v) w) : WH P ops (Ext w0) Q ((⟨some d, .load t x, ty, pos, af, none⟩, bb) :: os) ρ w :=
  WH_load0 v hA hx (fun _ hS => ⟨c, T, fz, keep_ext hS hb, hc⟩) h
theorem WH_loadA {w0 : World} {b o k : Nat} {c : Array Value} {T : TypeId} {fz : Nat × Nat} (cs : Array Value) (hA : ∀ w, (isAgg t).run P w = .ok true w) (hS : ∀ w, (Go.sizeOf t).run P w = .ok k w)
    (hx : ev ρ x = .pointer (some ⟨b, o, none⟩)) (hb : hp w0 b = some (.cells c T fz)) (hk : o + k ≤ c.size) (hc : c.extract o (o + k) = cs) (h : WH P ops (Ext w0) Q os (upd ρ d (.agg cs)) w) :
    WH P ops (Ext w0) Q ((⟨some d, .load t x, ty, pos, af, none⟩, bb) :: os) ρ w :=
  WH_loadA0 cs hA hS hx (fun _ hS => ⟨c, T, fz, keep_ext hS hb, hk, hc⟩) h
theorem WH_loud {dd : Option Nat} {op : Op} (hl : loudOp op = true) (h : stepo P ⟨dd, op, ty, pos, af, none⟩ ρ w (fun v w' => (bb = true → S w') ∧ WH P ops S Q os (updo ρ dd v) w')) :
    WH P ops S Q ((⟨dd, op, ty, pos, af, none⟩, bb) :: os) ρ w := by
  refine ⟨?_⟩
  simp only [WH0, wanted, if_true, hl]
  exact stepo_mono h fun v w' h => ⟨h.1, h.2.run⟩
theorem WH_call {f : FuncId} {l : List Operand} {ts : Array TypeId} {vs : List Value} (hc : ∀ (args : Array Value) (w : World), (callFunc f args).run P w = .ok (.enter f args) w)
    (hv : l.map (ev ρ) = vs) (h : Ret P f vs.toArray w (fun v w' => (bb = true → S w') ∧ WH P ops S Q os (upd ρ d v) w')) : WH P ops S Q ((⟨some d, .call ⟨.value (.func f), l.toArray, ts⟩, ty, pos, af, none⟩, bb) :: os) ρ w := by
  subst hv
  refine WH_loud rfl ?_
  have e1 : (#[] : Array Value) ++ Array.map (ev ρ) l.toArray ++ #[] = (l.map (ev ρ)).toArray := by simp
  simp only [stepo, execOp, resolve, ev, Deferred.ofValue, Sem.run_bind, Sem.run_pure, Result.andThen_ok, invoke, e1, hc]; exact h.run
theorem WH_store {b o k : Nat} {c : Array Value} {T : TypeId} {v : Value} (hS : ∀ w, (Go.sizeOf t).run P w = .ok k w) (hx : ev ρ x = .pointer (some ⟨b, o, none⟩)) (hy : ev ρ y = v)
    (hb : hp w b = some (.cells c T (0, 0))) (hs : v.cells.size = k) (hk : o + k ≤ c.size) (hv : ∀ u ∈ v.cells.toList, u.oneCell' = true)
    (hq : bb = true → S (setB w b (.cells (splice c o v.cells.toList) T (0, 0))))
    (h : WH P ops S Q os ρ (setB w b (.cells (splice c o v.cells.toList) T (0, 0)))) : WH P ops S Q ((⟨none, .store t x y, ty, pos, af, none⟩, bb) :: os) ρ w := by
  subst hy
  refine WH_loud rfl ?_
  have hr := run_storeCells_hp (P := P) (ev ρ y).cells.toList c o 0 w hb (by simp; omega) hv
  simp only [Nat.add_zero] at hr
  simp only [stepo, execOp, hx, Instr.storeAt, Instr.sureAddr, storeVar, Sem.run_bind, Sem.run_pure, Result.andThen_ok, hS, hs, al_ne, al_nt, al_i0, hr]; exact ⟨hq, h⟩
theorem WH_box {v : Value} (hx : ev ρ x = v) (hq : bb = true → S (w.alloc (.cells v.cells t))) (h : WH P ops S Q os (upd ρ d (.pointer (some ⟨w.heap.size, 0, none⟩))) (w.alloc (.cells v.cells t))) :
    WH P ops S Q ((⟨some d, .box t x, ty, pos, af, none⟩, bb) :: os) ρ w := by
  subst hx
  exact WH_loud rfl ⟨hq, h⟩
theorem WH_alloc {z : Value} (hz : ∀ w, (zeroValue t).run P w = .ok z w) (hq : bb = true → S (w.alloc (.cells z.cells t))) (h : WH P ops S Q os (upd ρ d (.pointer (some ⟨w.heap.size, 0, none⟩))) (w.alloc (.cells z.cells t))) :
    WH P ops S Q ((⟨some d, .alloc t, ty, pos, af, none⟩, bb) :: os) ρ w := by
  refine WH_loud rfl ?_
  simp only [stepo, execOp, Instr.alloc, newVar, newRow, Sem.run_bind, Sem.run_pure, Result.andThen_ok, hz, run_newObj]; exact ⟨hq, h⟩
theorem WH_guardT {dd : Option Nat} {op : Op} {j tt : Nat} {want b : Bool} (hj : (ops[j]?).bind (·.dst) = some tt) (hb : ρ tt = .bool b) (hw : b = want)
    (h : WH P ops S Q ((⟨dd, op, ty, pos, af, none⟩, bb) :: os) ρ w) : WH P ops S Q ((⟨dd, op, ty, pos, af, some (j, want)⟩, bb) :: os) ρ w := by
  have h := h.run
  refine ⟨?_⟩
  simp only [WH0, wanted, hj, hb, hw, al_ss, if_true] at h ⊢; exact h
theorem WH_guardF {dd : Option Nat} {op : Op} {j tt : Nat} {want b : Bool} (hj : (ops[j]?).bind (·.dst) = some tt) (hb : ρ tt = .bool b) (hw : b = !want)
    (h : WH P ops S Q os (updo ρ dd undef) w) : WH P ops S Q ((⟨dd, op, ty, pos, af, some (j, want)⟩, bb) :: os) ρ w := by
  subst hw
  have : ((!want) == want) = false := by cases want <;> rfl
  refine ⟨?_⟩
  simp only [WH0, wanted, hj, hb, this, Bool.false_eq_true, al_i0]; exact h.run
theorem WH_splitB {b : Bool} {t : Nat} (_hv : ρ t = .bool b) (ht : b = true → WH P ops S Q os ρ w) (hf : b = false → WH P ops S Q os ρ w) : WH P ops S Q os ρ w := by
  cases b
  · exact hf rfl
  · exact ht rfl
end

def tz : List Oper → List Bool → List TOp
  | [], _ => []
  | o :: os, [] => (o, false) :: tz os []
  | o :: os, b :: bs => (o, b) :: tz os bs
theorem tz_map : ∀ (os : List Oper) (bs : List Bool), (tz os bs).map (·.1) = os
  | [], _ => rfl
  | o :: os, [] => by simp [tz, tz_map os []]
  | o :: os, b :: bs => by simp [tz, tz_map os bs]
theorem W_drawT {P : Program} {n id : Nat} {Q : Post} {ops : List Oper} (tags : List Bool) {ρ : Nat → Value} {w : World} (S : World → Prop) (hm : P.follows .mixedOrders = true) (hchk : chk (tz ops tags) = true) (hd : dstsOK n ops = true)
    (hS : S w.drew) (h : WH P ops.toArray S Q (tz ops tags) ρ w.drew) : W P n (.region id ops.toArray true) Q ρ w :=
  W_draw (tz ops tags) S hm (tz_map ops tags) hchk hd hS h
/-- .. with 'all blocks stand' -/
theorem W_drawE {P : Program} {n id : Nat} {Q : Post} {ops : List Oper} (tags : List Bool) {ρ : Nat → Value} {w : World} (hm : P.follows .mixedOrders = true) (hchk : chk (tz ops tags) = true) (hd : dstsOK n ops = true)
    (h : WH P ops.toArray (Ext w.drew) Q (tz ops tags) ρ w.drew) : W P n (.region id ops.toArray true) Q ρ w :=
  W_drawT tags (Ext w.drew) hm hchk hd (Ext.refl _) h

/-! literals -/
section
variable {P : Program} {t e : TypeId} {ρ : Nat → Value}
theorem PS_buildA {n s : Nat} {z cs : Array Value} {l : List (Nat × Operand)} (hz : ∀ w, (zeroValue t).run P w = .ok (.agg z) w) (hU : ∀ w, (underlying t).run P w = .ok (.array n e) w) (hS : ∀ w, (Go.sizeOf e).run P w = .ok s w)
    (hf : Instr.fill (fun i => some (i * s, s)) z (l.map fun p => (p.1, ev ρ p.2)) = some cs) : PS P (.build t l.toArray) ρ (.agg cs) :=
  ⟨fun o w h => by
    have e1 : (Array.map (fun x => (x.1, ev ρ x.2)) l.toArray).toList = l.map fun p => (p.1, ev ρ p.2) := by simp
    simp only [execOp, h, Instr.build, hz, hU, hS, Value.cells, Sem.run_bind, Sem.run_pure, Result.andThen_ok, e1, hf]⟩
end
end Go.Proofs.YgvadwGreat
