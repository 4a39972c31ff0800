import Derived.Test.YgvadwGreatFwJ
import Derived.Test.YgvadwGreatFwH
import Derived.Laws.MakeOwn
namespace Go.Proofs.YgvadwGreat
set_option linter.unusedSimpArgs false
set_option linter.unusedVariables false
section
variable {P : Program} {ops : Array Oper} {S : World → Prop} {Q : Post} {d : Nat} {t e ty : TypeId} {pos : String} {af : Array Edge} {os : List Oper} {os' : List TOp} {ρ : Nat → Value} {w : World} {x y : Operand} {bb : Bool}
/-! make -/
theorem made_ic (k : IntKind) (n : Nat) : madeCells (Value.int k 0).cells n = ic k (List.replicate n 0) := by
  unfold madeCells ic
  refine Array.ext (by simp) ?_
  intro i h1 h2
  simp [Value.cells, Nat.mod_one]
theorem WO_make {i : TypeInfo} {z : Value} {kl kc : IntKind} {l c : Int} (ht : P.underlying t = some (.slice e)) (hi : P.info? e = some i) (hz : i.zero = some z) (hx : ev ρ x = .int kl l) (hy : ev ρ y = .int kc c) (h0 : 0 ≤ l) (hlc : l ≤ c) (hb : (i.bytes : Int) * c ≤ 281474976710656) (h63 : c ≤ 9223372036854775807)
    (h : WO P ops Q os (upd ρ d (.slice (some ⟨w.heap.size, 0, none⟩) l.toNat c.toNat)) (w.alloc (.cells (madeCells z.cells (c.toNat * i.size)) e))) : WO P ops Q (⟨some d, .makeSlice t x y, ty, pos, af, none⟩ :: os) ρ w := by
  refine WO_cons ?_
  have hr := run_make (P := P) w t e i z ht hi hz kl kc l c h0 hlc hb h63
  simp only [stepo, execOp, hx, hy, hr, Sem.run_bind, Sem.run_pure, Result.andThen_ok]; exact h
theorem WH_make {i : TypeInfo} {z : Value} {kl kc : IntKind} {l c : Int} (ht : P.underlying t = some (.slice e)) (hi : P.info? e = some i) (hz : i.zero = some z) (hx : ev ρ x = .int kl l) (hy : ev ρ y = .int kc c) (h0 : 0 ≤ l) (hlc : l ≤ c) (hb : (i.bytes : Int) * c ≤ 281474976710656) (h63 : c ≤ 9223372036854775807)
    (hq : bb = true → S (w.alloc (.cells (madeCells z.cells (c.toNat * i.size)) e)))
    (h : WH P ops S Q os' (upd ρ d (.slice (some ⟨w.heap.size, 0, none⟩) l.toNat c.toNat)) (w.alloc (.cells (madeCells z.cells (c.toNat * i.size)) e))) : WH P ops S Q ((⟨some d, .makeSlice t x y, ty, pos, af, none⟩, bb) :: os') ρ w := by
  refine WH_loud rfl ?_
  have hr := run_make (P := P) w t e i z ht hi hz kl kc l c h0 hlc hb h63
  simp only [stepo, execOp, hx, hy, hr, Sem.run_bind, Sem.run_pure, Result.andThen_ok]; exact ⟨hq, h⟩
/-! copy -/
theorem run_copy_hp {dT sT : TypeId} {b o dl dc b2 o2 sl sc n sz : Nat} {c c2 : Array Value} {T T2 : TypeId} {fz : Nat × Nat} (hU : ∀ w, (underlying dT).run P w = .ok (.slice e) w) (hS : ∀ w, (Go.sizeOf e).run P w = .ok sz w)
    (hb : hp w b = some (.cells c T (0, 0))) (hb2 : hp w b2 = some (.cells c2 T2 fz)) (hn : Nat.min sl dl = n) (hk : o + n * sz ≤ c.size) (hk2 : o2 + n * sz ≤ c2.size) (hone : ∀ u ∈ (c2.extract o2 (o2 + n * sz)).toList, u.oneCell' = true) :
    (Builtin.copy_ #[dT, sT] ty #[.slice (some ⟨b, o, none⟩) dl dc, .slice (some ⟨b2, o2, none⟩) sl sc]).run P w = .ok (goInt n) (setB w b (.cells (splice c o (c2.extract o2 (o2 + n * sz)).toList) T (0, 0))) := by
  have hl := run_loadCells_hp (P := P) (w := w) hb2 hk2
  have hlen : (c2.extract o2 (o2 + n * sz)).toList.length = n * sz := by simp; omega
  have hst := run_storeCells_hp (P := P) (c2.extract o2 (o2 + n * sz)).toList c o 0 w hb (by omega) hone
  simp only [Builtin.copy_, Builtin.lenOf, Builtin.firstCells, Sem.run_bind, Sem.run_pure, Result.andThen_ok, hU, hS, hn, hl]
  simp only [List.getElem?_toArray, List.getElem?_cons_zero, List.getElem?_cons_succ, Sem.run_bind, Sem.run_pure, Result.andThen_ok, hU, hS, hn, hl, hst, Nat.add_zero]
theorem run_copy_0 {dT sT : TypeId} {dl dc sc sz : Nat} {p : Option Addr} (hU : ∀ w, (underlying dT).run P w = .ok (.slice e) w) (hS : ∀ w, (Go.sizeOf e).run P w = .ok sz w) :
    (Builtin.copy_ #[dT, sT] ty #[.slice p dl dc, .slice none 0 sc]).run P w = .ok (goInt 0) w := by
  have h0 : Nat.min 0 dl = 0 := Nat.zero_min dl
  simp only [Builtin.copy_, Builtin.lenOf, Builtin.firstCells, Sem.run_bind, Sem.run_pure, Result.andThen_ok, hU, hS, h0]
  cases p <;> simp only [List.getElem?_toArray, List.getElem?_cons_zero, List.getElem?_cons_succ, Sem.run_bind, Sem.run_pure, Result.andThen_ok, hU, hS, h0, storeCells] <;> rfl
section
variable {dd : Option Nat} {dT sT : TypeId}
theorem WO_copy {b o dl dc b2 o2 sl sc sz : Nat} (n : Nat) {c c2 : Array Value} {T T2 : TypeId} {fz : Nat × Nat} {vs : Array Value} (hU : ∀ w, (underlying dT).run P w = .ok (.slice e) w) (hS : ∀ w, (Go.sizeOf e).run P w = .ok sz w)
    (hx : ev ρ x = .slice (some ⟨b, o, none⟩) dl dc) (hy : ev ρ y = .slice (some ⟨b2, o2, none⟩) sl sc)
    (hb : hp w b = some (.cells c T (0, 0))) (hb2 : hp w b2 = some (.cells c2 T2 fz)) (hn : Nat.min sl dl = n) (hk : o + n * sz ≤ c.size) (hk2 : o2 + n * sz ≤ c2.size) (hv : c2.extract o2 (o2 + n * sz) = vs) (hone : ∀ u ∈ vs.toList, u.oneCell' = true)
    (h : WO P ops Q os (updo ρ dd (Value.int .i64 n)) (setB w b (.cells (splice c o vs.toList) T (0, 0)))) : WO P ops Q (⟨dd, .call ⟨.builtin .copy, #[x, y], #[dT, sT]⟩, ty, pos, af, none⟩ :: os) ρ w := by
  refine WO_cons ?_
  subst hv
  have hrun := run_copy_hp (P := P) (w := w) (ty := ty) (sT := sT) (dc := dc) (sc := sc) hU hS hb hb2 hn hk hk2 hone
  have e1 : Array.map (ev ρ) #[x, y] = #[.slice (some ⟨b, o, none⟩) dl dc, .slice (some ⟨b2, o2, none⟩) sl sc] := by simp [hx, hy]
  simp only [stepo, execOp, resolve, invoke, builtin, e1, hrun, Sem.run_bind, Sem.run_pure, Result.andThen_ok]; exact h
theorem WO_copy0 {dl dc sc sz : Nat} {p : Option Addr} (hU : ∀ w, (underlying dT).run P w = .ok (.slice e) w) (hS : ∀ w, (Go.sizeOf e).run P w = .ok sz w) (hx : ev ρ x = .slice p dl dc) (hy : ev ρ y = .slice none 0 sc)
    (h : WO P ops Q os (updo ρ dd (Value.int .i64 0)) w) : WO P ops Q (⟨dd, .call ⟨.builtin .copy, #[x, y], #[dT, sT]⟩, ty, pos, af, none⟩ :: os) ρ w := by
  refine WO_cons ?_
  have hrun := run_copy_0 (P := P) (w := w) (ty := ty) (sT := sT) (dl := dl) (dc := dc) (sc := sc) (p := p) hU hS
  have e1 : Array.map (ev ρ) #[x, y] = #[.slice p dl dc, .slice none 0 sc] := by simp [hx, hy]
  simp only [stepo, execOp, resolve, invoke, builtin, e1, hrun, Sem.run_bind, Sem.run_pure, Result.andThen_ok]; exact h
theorem WH_copy {b o dl dc b2 o2 sl sc sz : Nat} (n : Nat) {c c2 : Array Value} {T T2 : TypeId} {fz : Nat × Nat} {vs : Array Value} (hU : ∀ w, (underlying dT).run P w = .ok (.slice e) w) (hS : ∀ w, (Go.sizeOf e).run P w = .ok sz w)
    (hx : ev ρ x = .slice (some ⟨b, o, none⟩) dl dc) (hy : ev ρ y = .slice (some ⟨b2, o2, none⟩) sl sc)
    (hb : hp w b = some (.cells c T (0, 0))) (hb2 : hp w b2 = some (.cells c2 T2 fz)) (hn : Nat.min sl dl = n) (hk : o + n * sz ≤ c.size) (hk2 : o2 + n * sz ≤ c2.size) (hv : c2.extract o2 (o2 + n * sz) = vs) (hone : ∀ u ∈ vs.toList, u.oneCell' = true)
    (hq : bb = true → S (setB w b (.cells (splice c o vs.toList) T (0, 0))))
    (h : WH P ops S Q os' (updo ρ dd (Value.int .i64 n)) (setB w b (.cells (splice c o vs.toList) T (0, 0)))) : WH P ops S Q ((⟨dd, .call ⟨.builtin .copy, #[x, y], #[dT, sT]⟩, ty, pos, af, none⟩, bb) :: os') ρ w := by
  refine WH_loud rfl ?_
  subst hv
  have hrun := run_copy_hp (P := P) (w := w) (ty := ty) (sT := sT) (dc := dc) (sc := sc) hU hS hb hb2 hn hk hk2 hone
  have e1 : Array.map (ev ρ) #[x, y] = #[.slice (some ⟨b, o, none⟩) dl dc, .slice (some ⟨b2, o2, none⟩) sl sc] := by simp [hx, hy]
  simp only [stepo, execOp, resolve, invoke, builtin, e1, hrun, Sem.run_bind, Sem.run_pure, Result.andThen_ok]; exact ⟨hq, h⟩
theorem WH_copy0 {dl dc sc sz : Nat} {p : Option Addr} (hU : ∀ w, (underlying dT).run P w = .ok (.slice e) w) (hS : ∀ w, (Go.sizeOf e).run P w = .ok sz w) (hx : ev ρ x = .slice p dl dc) (hy : ev ρ y = .slice none 0 sc) (hq : bb = true → S w)
    (h : WH P ops S Q os' (updo ρ dd (Value.int .i64 0)) w) : WH P ops S Q ((⟨dd, .call ⟨.builtin .copy, #[x, y], #[dT, sT]⟩, ty, pos, af, none⟩, bb) :: os') ρ w := by
  refine WH_loud rfl ?_
  have hrun := run_copy_0 (P := P) (w := w) (ty := ty) (sT := sT) (dl := dl) (dc := dc) (sc := sc) (p := p) hU hS
  have e1 : Array.map (ev ρ) #[x, y] = #[.slice p dl dc, .slice none 0 sc] := by simp [hx, hy]
  simp only [stepo, execOp, resolve, invoke, builtin, e1, hrun, Sem.run_bind, Sem.run_pure, Result.andThen_ok]; exact ⟨hq, h⟩
/-! clear -/
theorem zc_ic (k : IntKind) (n : Nat) : Builtin.zeroCells (Value.int k 0).cells n = ic k (List.replicate n 0) := by
  unfold Builtin.zeroCells ic
  refine Array.ext (by simp [Value.cells]) ?_
  intro i h1 h2
  simp [Value.cells, Nat.mod_one]
theorem WO_clear {k : IntKind} {b o n cp : Nat} {c : Array Value} {T : TypeId} (hU : ∀ w, (underlying dT).run P w = .ok (.slice e) w) (hz : ∀ w, (zeroValue e).run P w = .ok (.int k 0) w) (hx : ev ρ x = .slice (some ⟨b, o, none⟩) n cp)
    (hb : hp w b = some (.cells c T (0, 0))) (hk : o + n ≤ c.size) (h0 : 0 < n)
    (h : WO P ops Q os (updo ρ dd (.tuple #[])) (setB w b (.cells (splice c o ((List.replicate n 0).map (Value.int k))) T (0, 0)))) : WO P ops Q (⟨dd, .call ⟨.builtin .clear, #[x], #[dT]⟩, ty, pos, af, none⟩ :: os) ρ w := by
  refine WO_cons ?_
  have hst := run_storeCells_hp (P := P) ((List.replicate n 0).map (Value.int k)) c o 0 w hb (by simp; omega) (by intro v hv; obtain ⟨_, _, rfl⟩ := List.mem_map.1 hv; rfl)
  have e1 : Array.map (ev ρ) #[x] = #[.slice (some ⟨b, o, none⟩) n cp] := by simp [hx]
  obtain ⟨m, rfl⟩ : ∃ m, n = m + 1 := ⟨n - 1, by omega⟩
  have e2 : (ic k (List.replicate (m + 1) 0)).toList = (List.replicate (m + 1) 0).map (Value.int k) := rfl
  simp only [stepo, execOp, resolve, invoke, builtin, e1, Builtin.clear_, List.getElem?_toArray, List.getElem?_cons_zero, hU, hz, zc_ic, e2, hst, Nat.add_zero, Sem.run_bind, Sem.run_pure, Result.andThen_ok]; exact h
theorem WO_clear0 {dl : TypeDesc} {p : Option Addr} {cp : Nat} (hU : ∀ w, (underlying dT).run P w = .ok dl w) (hx : ev ρ x = .slice p 0 cp)
    (h : WO P ops Q os (updo ρ dd (.tuple #[])) w) : WO P ops Q (⟨dd, .call ⟨.builtin .clear, #[x], #[dT]⟩, ty, pos, af, none⟩ :: os) ρ w := by
  refine WO_cons ?_
  have e1 : Array.map (ev ρ) #[x] = #[.slice p 0 cp] := by simp [hx]
  cases p <;> (simp only [stepo, execOp, resolve, invoke, builtin, e1, Builtin.clear_, List.getElem?_toArray, List.getElem?_cons_zero, hU, Sem.run_bind, Sem.run_pure, Result.andThen_ok]; exact h)
end
end
section
variable {P : Program} {fn : Func} {n : Nat} {R : Value → World → Prop} {ρ : Nat → Value} {w : World}
theorem bodyQ_cell2T {t u : Nat} (v : Value) {q : Nat} {T T2 : TypeId} {b b2 : Nat} {k k2 : Nat} {c c2 : Array Value} {T' T2' : TypeId} {fz fz2 : Nat × Nat} (hr : fn.results = #[.cell t T, .cell u T2, .tmp q]) (ht : Nat.ble (t+1) n = true) (hu : Nat.ble (u+1) n = true) (hq : Nat.ble (q+1) n = true)
    (hA : ∀ w, (isAgg T).run P w = .ok true w) (hS : ∀ w, (Go.sizeOf T).run P w = .ok k w) (hA2 : ∀ w, (isAgg T2).run P w = .ok true w) (hS2 : ∀ w, (Go.sizeOf T2).run P w = .ok k2 w)
    (hv : ρ t = .pointer (some ⟨b, 0, none⟩)) (hb : hp w b = some (.cells c T' fz)) (hk : c.size = k) (hv2 : ρ u = .pointer (some ⟨b2, 0, none⟩)) (hb2 : hp w b2 = some (.cells c2 T2' fz2)) (hk2 : c2.size = k2) (hq' : ρ q = v) (h : R (.tuple #[.agg c, .agg c2, v]) w) : bodyQ P fn n R .ret ρ w := by
  replace ht : t < n := Nat.le_of_ble_eq_true ht
  replace hu : u < n := Nat.le_of_ble_eq_true hu
  replace hq : q < n := Nat.le_of_ble_eq_true hq
  refine ⟨.tuple #[.agg c, .agg c2, v], ?_, h⟩
  have e : c.extract 0 (0 + k) = c := by subst hk; simp
  have hl := run_loadCells_hp (P := P) hb (o := 0) (n := k) (by omega)
  rw [e] at hl
  have e2 : c2.extract 0 (0 + k2) = c2 := by subst hk2; simp
  have hl2 := run_loadCells_hp (P := P) hb2 (o := 0) (n := k2) (by omega)
  rw [e2] at hl2
  simp [results, hr, act, ht, hu, hq, Array.getD, hv, hv2, hq', asAddr, loadVar, hA, hS, hl, hA2, hS2, hl2]
theorem bodyQ_Tcell {t : Nat} (v : Value) {q : Nat} {T : TypeId} {b : Nat} {k : Nat} {c : Array Value} {T' : TypeId} {fz : Nat × Nat} (hr : fn.results = #[.tmp q, .cell t T]) (ht : Nat.ble (t+1) n = true) (hq : Nat.ble (q+1) n = true)
    (hA : ∀ w, (isAgg T).run P w = .ok true w) (hS : ∀ w, (Go.sizeOf T).run P w = .ok k w) (hv : ρ t = .pointer (some ⟨b, 0, none⟩)) (hb : hp w b = some (.cells c T' fz)) (hk : c.size = k) (hq' : ρ q = v) (h : R (.tuple #[v, .agg c]) w) : bodyQ P fn n R .ret ρ w := by
  replace ht : t < n := Nat.le_of_ble_eq_true ht
  replace hq : q < n := Nat.le_of_ble_eq_true hq
  refine ⟨.tuple #[v, .agg c], ?_, h⟩
  have e : c.extract 0 (0 + k) = c := by subst hk; simp
  have hl := run_loadCells_hp (P := P) hb (o := 0) (n := k) (by omega)
  rw [e] at hl
  simp [results, hr, act, ht, hq, Array.getD, hv, hq', asAddr, loadVar, hA, hS, hl]
theorem bodyQ_cell3 {t u q : Nat} {T T2 T3 : TypeId} {b b2 b3 : Nat} {k k2 k3 : Nat} {c c2 c3 : Array Value} {T' T2' T3' : TypeId} {fz fz2 fz3 : Nat × Nat} (hr : fn.results = #[.cell t T, .cell u T2, .cell q T3]) (ht : Nat.ble (t+1) n = true) (hu : Nat.ble (u+1) n = true) (hq : Nat.ble (q+1) n = true)
    (hA : ∀ w, (isAgg T).run P w = .ok true w) (hS : ∀ w, (Go.sizeOf T).run P w = .ok k w) (hA2 : ∀ w, (isAgg T2).run P w = .ok true w) (hS2 : ∀ w, (Go.sizeOf T2).run P w = .ok k2 w) (hA3 : ∀ w, (isAgg T3).run P w = .ok true w) (hS3 : ∀ w, (Go.sizeOf T3).run P w = .ok k3 w)
    (hv : ρ t = .pointer (some ⟨b, 0, none⟩)) (hb : hp w b = some (.cells c T' fz)) (hk : c.size = k) (hv2 : ρ u = .pointer (some ⟨b2, 0, none⟩)) (hb2 : hp w b2 = some (.cells c2 T2' fz2)) (hk2 : c2.size = k2) (hv3 : ρ q = .pointer (some ⟨b3, 0, none⟩)) (hb3 : hp w b3 = some (.cells c3 T3' fz3)) (hk3 : c3.size = k3) (h : R (.tuple #[.agg c, .agg c2, .agg c3]) w) : bodyQ P fn n R .ret ρ w := by
  replace ht : t < n := Nat.le_of_ble_eq_true ht
  replace hu : u < n := Nat.le_of_ble_eq_true hu
  replace hq : q < n := Nat.le_of_ble_eq_true hq
  refine ⟨.tuple #[.agg c, .agg c2, .agg c3], ?_, h⟩
  have e : c.extract 0 (0 + k) = c := by subst hk; simp
  have hl := run_loadCells_hp (P := P) hb (o := 0) (n := k) (by omega)
  rw [e] at hl
  have e2 : c2.extract 0 (0 + k2) = c2 := by subst hk2; simp
  have hl2 := run_loadCells_hp (P := P) hb2 (o := 0) (n := k2) (by omega)
  rw [e2] at hl2
  have e3 : c3.extract 0 (0 + k3) = c3 := by subst hk3; simp
  have hl3 := run_loadCells_hp (P := P) hb3 (o := 0) (n := k3) (by omega)
  rw [e3] at hl3
  simp [results, hr, act, ht, hu, hq, Array.getD, hv, hv2, hv3, asAddr, loadVar, hA, hS, hl, hA2, hS2, hl2, hA3, hS3, hl3]
end
section
variable {P : Program} {ops : Array Oper} {S : World → Prop} {Q : Post} {ty : TypeId} {pos : String} {af : Array Edge} {os : List Oper} {os' : List TOp} {ρ : Nat → Value} {w : World} {bb : Bool}
theorem WO_guardU {dd : Option Nat} {op : Op} {j tt : Nat} {want : Bool} (hj : (ops[j]?).bind (·.dst) = some tt) (hb : ρ tt = undef)
    (h : WO P ops Q os (updo ρ dd undef) w) : WO P ops Q (⟨dd, op, ty, pos, af, some (j, want)⟩ :: os) ρ w := by
  refine ⟨?_⟩
  simp only [WO0, wanted, hj, hb, undef, Bool.false_eq_true, al_i0]; exact h.run
theorem WH_guardU {dd : Option Nat} {op : Op} {j tt : Nat} {want : Bool} (hj : (ops[j]?).bind (·.dst) = some tt) (hb : ρ tt = undef)
    (h : WH P ops S Q os' (updo ρ dd undef) w) : WH P ops S Q ((⟨dd, op, ty, pos, af, some (j, want)⟩, bb) :: os') ρ w := by
  refine ⟨?_⟩
  simp only [WH0, wanted, hj, hb, undef, Bool.false_eq_true, al_i0]; exact h.run
end
section
variable {P : Program} {ops : Array Oper} {Q : Post} {d : Nat} {t yt ty : TypeId} {pos : String} {af : Array Edge} {os : List TOp} {ρ : Nat → Value} {w : World} {x y : Operand} {bb : Bool}
/-- held by 'all blocks of w0 outside O stand' -/
theorem WH_loadK {w0 : World} {O : Nat → Prop} {b o : Nat} {c : Array Value} {T : TypeId} {fz : Nat × Nat} (v : Value) (hA : ∀ w, (isAgg t).run P w = .ok false w) (hx : ev ρ x = .pointer (some ⟨b, o, none⟩))
    (hb : hp w0 b = some (.cells c T fz)) (hO : ¬ O b) (hc : c[o]? = some v) (h : WH P ops (KeepO O w0) Q os (upd ρ d v) w) : WH P ops (KeepO O w0) Q ((⟨some d, .load t x, ty, pos, af, none⟩, bb) :: os) ρ w :=
  WH_load0 v hA hx (fun _ hS => ⟨c, T, fz, (Hb.keepO hS hO ⟨hb⟩).h, hc⟩) h
theorem WH_loadAK {w0 : World} {O : Nat → Prop} {b o k : Nat} {c : Array Value} {T : TypeId} {fz : Nat × Nat} (cs : Array Value) (hA : ∀ w, (isAgg t).run P w = .ok true w) (hS : ∀ w, (Go.sizeOf t).run P w = .ok k w)
    (hx : ev ρ x = .pointer (some ⟨b, o, none⟩)) (hb : hp w0 b = some (.cells c T fz)) (hO : ¬ O b) (hk : o + k ≤ c.size) (hc : c.extract o (o + k) = cs) (h : WH P ops (KeepO O w0) Q os (upd ρ d (.agg cs)) w) :
    WH P ops (KeepO O w0) Q ((⟨some d, .load t x, ty, pos, af, none⟩, bb) :: os) ρ w :=
  WH_loadA0 cs hA hS hx (fun _ hS => ⟨c, T, fz, (Hb.keepO hS hO ⟨hb⟩).h, hk, hc⟩) h
theorem W_drawK {n id : Nat} {ops : List Oper} (tags : List Bool) (O : Nat → Prop) (hm : P.follows .mixedOrders = true) (hchk : chk (tz ops tags) = true) (hd : dstsOK n ops = true)
    (h : WH P ops.toArray (KeepO O w.drew) Q (tz ops tags) ρ w.drew) : W P n (.region id ops.toArray true) Q ρ w :=
  W_drawT tags (KeepO O w.drew) hm hchk hd (KeepO.refl _ _) h
theorem KeepO.alloc {O : Nat → Prop} {a b : World} (h : KeepO O a b) (o : Obj) : KeepO O a (b.alloc o) := h.trans (Ext.keepO (Ext.alloc (Ext.refl b) o) O) (fun _ _ h => h)
theorem KeepO.extR {O : Nat → Prop} {a b c : World} (h : KeepO O a b) (he : Ext b c) : KeepO O a c := h.trans (he.keepO O) (fun _ _ h => h)
end
end Go.Proofs.YgvadwGreat
