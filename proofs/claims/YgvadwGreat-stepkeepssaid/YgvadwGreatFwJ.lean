import Derived.Test.YgvadwGreatSt
import Derived.Laws.Append
set_option linter.unusedSimpArgs false
set_option linter.unusedVariables false
namespace Go.Proofs.YgvadwGreat

theorem splice_list {c : Array Value} {o : Nat} {vs : List Value} (h : o + vs.length ≤ c.size) : splice c o vs = (c.toList.take o ++ (vs ++ c.toList.drop (o + vs.length))).toArray := by
  refine Array.ext_getElem? ?_
  intro i
  rw [splice_get _ _ _ _ h]
  have hl : (c.toList.take o).length = o := by simp; omega
  by_cases h1 : i < o
  · rw [if_neg (by omega)]
    simp only [List.getElem?_toArray]
    rw [List.getElem?_append_left (by omega)]
    simp [h1]
  · by_cases h2 : i < o + vs.length
    · rw [if_pos ⟨by omega, h2⟩]
      simp only [List.getElem?_toArray]
      rw [List.getElem?_append_right (by omega), hl, List.getElem?_append_left (by omega)]
    · rw [if_neg (by omega)]
      simp only [List.getElem?_toArray]
      rw [List.getElem?_append_right (by omega), hl, List.getElem?_append_right (by omega), List.getElem?_drop]
      simp only [Array.getElem?_toList]
      congr 1; omega

/-- One part of a literal. -/
theorem fill_cons {place : Nat → Option (Nat × Nat)} {z : Array Value} {i off size : Nat} {v : Value} {rest : List (Nat × Value)} (hp : place i = some (off, size)) (hs : v.cells.size = size) (hb : off + size ≤ z.size) :
    Instr.fill place z ((i, v) :: rest) = Instr.fill place (splice z off v.cells.toList) rest := by
  have key : ∀ (l : List Value) (n : Nat) (z : Array Value), List.foldl (fun cs (x : Value × Nat) => cs.setIfInBounds (off + x.2) x.1) z (l.zipIdx n) = splice z (off + n) l := by
    intro l
    induction l with
    | nil => intro n z; rfl
    | cons a l ih => intro n z; simp only [List.zipIdx_cons, List.foldl_cons, splice]; rw [ih]; rfl
  simp only [Instr.fill, hp]
  split
  · rename_i hbad
    exfalso
    simp [hs] at hbad
    omega
  · congr 1
    rw [← Array.foldl_toList, Array.toList_zipIdx]
    exact key v.cells.toList 0 z

section
variable {P : Program} {t e : TypeId} {ρ : Nat → Value}
theorem PS_buildS {z cs : Array Value} {fs : Array Field} {places : Array (Nat × Nat)} {l : List (Nat × Operand)} {ps : List (Nat × Value)} (hz : ∀ w, (zeroValue t).run P w = .ok (.agg z) w) (hU : ∀ w, (underlying t).run P w = .ok (.struct fs) w)
    (hpl : ∀ w, (fs.mapM fun f => do pure (f.offset, ← Go.sizeOf f.type) : Sem (Array (Nat × Nat))).run P w = .ok places w)
    (hv : (l.map fun p => (p.1, ev ρ p.2)) = ps) (hf : Instr.fill (places[·]?) z ps = some cs) : PS P (.build t l.toArray) ρ (.agg cs) :=
  ⟨fun o w h => by
    subst hv
    have e1 : (Array.map (fun x => (x.1, ev ρ x.2)) l.toArray).toList = l.map fun p => (p.1, ev ρ p.2) := by simp
    simp only [execOp, h, Instr.build, hz, hU, hpl, Value.cells, Sem.run_bind, Sem.run_pure, Result.andThen_ok, e1, hf]⟩

/-- a slice literal of one element -/
theorem run_buildSlice1 {size : Nat} {z : Value} {cs : Array Value} (w : World) (hU : ∀ w, (underlying t).run P w = .ok (.slice e) w) (hS : ∀ w, (Go.sizeOf e).run P w = .ok size w) (hz : ∀ w, (zeroValue e).run P w = .ok z w)
    (hcs : cs.size = size) (h0 : 0 < size) (h1 : size ≤ 16777216) :
    (Instr.buildSlice t 1 #[(0, .agg cs)]).run P w = .ok (.slice (some ⟨w.heap.size, 0, none⟩) 1 1) (w.alloc (.cells cs e)) := by
  have e0 : ¬ (1 * size > 2 ^ 24) := by omega
  have e1 : ¬ (1 * size = 0) := by omega
  have e2 : ((Array.range (1 * size)).map (fun i => z.cells[i % z.cells.size]!)).size = size := by simp
  have hf : Instr.fill (fun i => some (i * size, size)) ((Array.range (1 * size)).map (fun i => z.cells[i % z.cells.size]!)) [(0, .agg cs)] = some cs := by
    rw [fill_cons (i := 0) (v := .agg cs) (off := 0) (size := size) (by simp) hcs (by rw [e2]; omega)]
    simp only [Instr.fill]
    rw [splice_whole rfl (by simp [Value.cells, hcs])]
    simp [Value.cells]
  simp only [Instr.buildSlice, hU, hS, hz, Sem.run_bind, Sem.run_pure, Result.andThen_ok, e0, e1, al_i0, Sem.run_ite, hf, newRow, run_newObj]
  rfl
end

/-- append of one record to a row of the state -/
theorem run_append_row {α : Type} {enc : α → List Value} {P : Program} {t e : TypeId} {size bytes : Nat} {i : TypeInfo} {z : Value} {rt : TypeId} {w : World} {s : Option (Nat × Nat)} {l : List α} {x : α} {b1 : Nat} {T1 : TypeId} {fz : Nat × Nat}
    (ht : P.underlying t = some (.slice e)) (hi : P.info? e = some i) (hz : i.zero = some z) (hsz : i.size = size) (hby : i.bytes = bytes) (hzs : z.cells.size = size)
    (hrow : Row enc size e w s l) (hx : (enc x).length = size) (hone : ∀ u ∈ enc x, u.oneCell' = true) (hsrc : Hb w b1 (.cells (enc x).toArray T1 fz)) (hlen : (l.length + 1) * bytes ≤ 140737488355328) (hl63 : l.length < 2147483647) :
    ∃ s' w', (Builtin.append_ #[t, t] rt #[slv s l.length, .slice (some ⟨b1, 0, none⟩) 1 1]).run P w = .ok (slv s' (l.length + 1)) w' ∧ Row enc size e w' s' (l ++ [x]) ∧ KeepO (blkOf s) w w' ∧ (∀ b, blkOf s' b → blkOf s b ∨ w.heap.size ≤ b) := by
  have hnews : ∀ j v, (enc x)[j]? = some v → w.cell? ((Addr.mk b1 0 none).add j) = some v := by
    intro j v hv
    rw [add_mk, cell_hp hsrc.h]; simpa using hv
  have hnl : (enc x).length = 1 * i.size := by rw [hsz, hx]; simp
  have hzc : ∀ n, (Builtin.zeroCells z.cells n).size = n * size := by intro n; simp [Builtin.zeroCells, hzs]
  have hgc : ∀ need old, need < 9223372036854775807 → need ≤ grownCap w need old e := by
    intro need old _
    show need ≤ need + _ % _
    exact Nat.le_add_right _ _
  -- a row of cells in a newY block
  have fresh : ∀ (N : Nat) (old : List Value), l.length + 1 ≤ N → old.length = size * l.length → (∀ i y, l[i]? = some y → ∀ k, k < size → old[i * size + k]? = (enc y)[k]?) →
      Row enc size e (w.drew.alloc (.cells (old.toArray ++ (enc x).toArray ++ Builtin.zeroCells z.cells (N - (l.length + 1))) e)) (some (w.heap.size, N)) (l ++ [x]) := by
    intro N old hN hol hold
    refine ⟨by simpa using hN, _, Hb.newY w.drew _, ?_, ?_⟩
    · simp only [Array.size_append, List.size_toArray, hol, hx, hzc]
      have : N = l.length + 1 + (N - (l.length + 1)) := by omega
      rw [show size * N = size * (l.length + 1) + size * (N - (l.length + 1)) by rw [← Nat.mul_add]; congr 1]
      rw [Nat.mul_add, Nat.mul_one, Nat.mul_comm (N - (l.length + 1)) size]
    · refine ⟨?_, ?_⟩
      · simp only [Array.size_append, List.size_toArray, hol, hx, List.length_append, List.length_singleton, Nat.mul_add, Nat.mul_one]; omega
      · intro i y hy k hk
        rw [Nat.zero_add, Array.append_assoc]
        by_cases hi : i < l.length
        · rw [List.getElem?_append_left hi] at hy
          have hb := mul_le_of_lt (sz := size) hi
          rw [Array.getElem?_append_left (by simp [hol]; omega)]
          simp only [List.getElem?_toArray]
          exact hold i y hy k hk
        · have hil := lt_of_getElem? hy
          simp at hil
          have hie : i = l.length := by omega
          subst hie
          rw [List.getElem?_append_right (Nat.le_refl _)] at hy
          simp at hy
          subst hy
          have hm : l.length * size = size * l.length := Nat.mul_comm _ _
          rw [Array.getElem?_append_right (by simp [hol]; omega), Array.getElem?_append_left (by simp [hol, hx]; omega)]
          simp only [List.size_toArray, hol, List.getElem?_toArray]
          congr 1; omega
  have newb : ∀ N b, blkOf (some (w.heap.size, N)) b → blkOf s b ∨ w.heap.size ≤ b := by
    rintro N b ⟨cap, hb⟩
    right
    injection hb with hb
    injection hb with hb _
    rw [← hb]; exact Nat.le_refl _
  cases s with
  | none =>
    simp only [Row] at hrow
    subst hrow
    have hrun := run_append_nil (P := P) w t rt e i z ht hi hz ⟨b1, 0, none⟩ 1 1 (enc x) hnl hnews (by omega) (by decide) (by rw [hby]; simp at hlen; omega)
    have hf := fresh (grownCap w 1 0 e) [] (by simpa using hgc 1 0 (by decide)) (by simp) (by simp)
    refine ⟨some (w.heap.size, grownCap w 1 0 e), _, hrun, ?_, ((Ext.refl w).drew.alloc _).keepO _, newb _⟩
    simpa using hf
  | some p =>
    obtain ⟨b, cap⟩ := p
    obtain ⟨hcap, r, hr, hrs, hrl⟩ := hrow
    by_cases hroom : l.length + 1 ≤ cap
    · have hfits : size * (l.length + 1) ≤ r.size := by rw [hrs]; exact Nat.mul_le_mul_left _ hroom
      rw [Nat.mul_add, Nat.mul_one] at hfits
      have hcm : l.length * size = size * l.length := Nat.mul_comm _ _
      have hst := run_storeCells_hp (P := P) (enc x) r (l.length * size) 0 w hr.h (by rw [hx]; omega) hone
      simp only [Nat.add_zero] at hst
      have hfc := run_firstCells_some (P := P) w i.size 1 ⟨b1, 0, none⟩ 1 1 (enc x) hnl hnews
      rw [hsz] at hfc
      refine ⟨some (b, cap), setB w b (.cells (splice r (l.length * size) (enc x)) e (0, 0)), ?_, ?_, ?_, fun b hb => Or.inl hb⟩
      · simp [Builtin.append_, slv, slp, slc, run_underlying ht, Go.sizeOf, typeInfo, hi, hsz, Builtin.lenOf, hroom, hfc, add_mk, hst]
      · refine ⟨by simpa using hroom, _, Hb.setSame hr, by rw [size_splice]; exact hrs, ?_⟩
        refine ⟨by rw [size_splice]; simp only [List.length_append, List.length_singleton, Nat.mul_add, Nat.mul_one]; omega, ?_⟩
        intro j y hy k hk
        rw [splice_get _ _ _ _ (by rw [hx]; omega), hx]
        by_cases hj : j < l.length
        · rw [List.getElem?_append_left hj] at hy
          have := mul_le_of_lt (sz := size) hj
          rw [if_neg (by omega)]
          exact hrl.2 j y hy k hk
        · have hil := lt_of_getElem? hy
          simp at hil
          have hje : j = l.length := by omega
          subst hje
          rw [List.getElem?_append_right (Nat.le_refl _)] at hy
          simp at hy
          subst hy
          rw [if_pos (by omega)]
          congr 1; omega
      · exact (KeepO.refl _ w).setB (fun _ => ⟨cap, rfl⟩) _
    · have hg : cap < l.length + 1 := by omega
      have hceq : cap = l.length := by omega
      have hol : (r.toList).length = l.length * i.size := by simp [hsz, hrs, hceq, Nat.mul_comm]
      have holds : ∀ j v, r.toList[j]? = some v → w.cell? ((Addr.mk b 0 none).add j) = some v := by
        intro j v hv
        rw [add_mk, cell_hp hr.h]; simpa using hv
      have hrun := run_append_grow (P := P) w t rt e i z ht hi hz ⟨b, 0, none⟩ l.length cap r.toList hol holds ⟨b1, 0, none⟩ 1 1 (enc x) hnl hnews hg (by omega) (by rw [hby]; exact growslice_fits hg hlen)
      have hf := fresh (grownCap w (l.length + 1) cap e) r.toList (hgc _ _ (by omega)) (by simp [hrs, hceq]) ?_
      · refine ⟨some (w.heap.size, grownCap w (l.length + 1) cap e), _, hrun, hf, ((Ext.refl w).drew.alloc _).keepO _, newb _⟩
      · intro j y hy k hk
        have := hrl.2 j y hy k hk
        rw [Nat.zero_add] at this
        simpa using this

section
variable {P : Program} {ops : Array Oper} {S : World → Prop} {Q : Post} {d : Nat} {t e ty : TypeId} {pos : String} {af : Array Edge} {os : List Oper} {os' : List TOp} {ρ : Nat → Value} {w : World} {x y : Operand} {bb : Bool}
theorem WH_buildSlice1 {size : Nat} {z : Value} {cs : Array Value} (hU : ∀ w, (underlying t).run P w = .ok (.slice e) w) (hS : ∀ w, (Go.sizeOf e).run P w = .ok size w) (hz : ∀ w, (zeroValue e).run P w = .ok z w)
    (hx : ev ρ x = .agg cs) (hcs : cs.size = size) (h0 : 0 < size) (h1 : size ≤ 16777216) (hq : bb = true → S (w.alloc (.cells cs e)))
    (h : WH P ops S Q os' (upd ρ d (.slice (some ⟨w.heap.size, 0, none⟩) 1 1)) (w.alloc (.cells cs e))) : WH P ops S Q ((⟨some d, .buildSlice t 1 #[(0, x)], ty, pos, af, none⟩, bb) :: os') ρ w := by
  refine WH_loud rfl ?_
  have hr := run_buildSlice1 (P := P) (t := t) w hU hS hz hcs h0 h1
  have e1 : Array.map (fun x => (x.1, ev ρ x.2)) #[(0, x)] = #[(0, .agg cs)] := by simp [hx]
  simp only [stepo, execOp, e1, hr, Sem.run_bind, Sem.run_pure, Result.andThen_ok]; exact ⟨hq, h⟩
theorem WO_buildSlice1 {size : Nat} {z : Value} {cs : Array Value} (hU : ∀ w, (underlying t).run P w = .ok (.slice e) w) (hS : ∀ w, (Go.sizeOf e).run P w = .ok size w) (hz : ∀ w, (zeroValue e).run P w = .ok z w)
    (hx : ev ρ x = .agg cs) (hcs : cs.size = size) (h0 : 0 < size) (h1 : size ≤ 16777216)
    (h : WO P ops Q os (upd ρ d (.slice (some ⟨w.heap.size, 0, none⟩) 1 1)) (w.alloc (.cells cs e))) : WO P ops Q (⟨some d, .buildSlice t 1 #[(0, x)], ty, pos, af, none⟩ :: os) ρ w := by
  refine WO_cons ?_
  have hr := run_buildSlice1 (P := P) (t := t) w hU hS hz hcs h0 h1
  have e1 : Array.map (fun x => (x.1, ev ρ x.2)) #[(0, x)] = #[(0, .agg cs)] := by simp [hx]
  simp only [stepo, execOp, e1, hr, Sem.run_bind, Sem.run_pure, Result.andThen_ok]; exact h
theorem WH_append {vx vy v : Value} {w' : World} (hx : ev ρ x = vx) (hy : ev ρ y = vy) (hrun : (Builtin.append_ #[t, t] ty #[vx, vy]).run P w = .ok v w') (hq : bb = true → S w')
    (h : WH P ops S Q os' (upd ρ d v) w') : WH P ops S Q ((⟨some d, .call ⟨.builtin .append, #[x, y], #[t, t]⟩, ty, pos, af, none⟩, bb) :: os') ρ w := by
  refine WH_loud rfl ?_
  have e1 : Array.map (ev ρ) #[x, y] = #[vx, vy] := by simp [hx, hy]
  simp only [stepo, execOp, resolve, invoke, builtin, e1, hrun, Sem.run_bind, Sem.run_pure, Result.andThen_ok]; exact ⟨hq, h⟩
theorem WO_append {vx vy v : Value} {w' : World} (hx : ev ρ x = vx) (hy : ev ρ y = vy) (hrun : (Builtin.append_ #[t, t] ty #[vx, vy]).run P w = .ok v w')
    (h : WO P ops Q os (upd ρ d v) w') : WO P ops Q (⟨some d, .call ⟨.builtin .append, #[x, y], #[t, t]⟩, ty, pos, af, none⟩ :: os) ρ w := by
  refine WO_cons ?_
  have e1 : Array.map (ev ρ) #[x, y] = #[vx, vy] := by simp [hx, hy]
  simp only [stepo, execOp, resolve, invoke, builtin, e1, hrun, Sem.run_bind, Sem.run_pure, Result.andThen_ok]; exact h
end
end Go.Proofs.YgvadwGreat
