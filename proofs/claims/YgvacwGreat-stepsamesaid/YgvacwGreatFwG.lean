
import Derived.Test.YgvacwGreatFwF
set_option linter.unusedSimpArgs false
set_option linter.unusedVariables false
namespace Go.Proofs.YgvacwGreat

theorem ext_whole {c : Array Value} {o k : Nat} (ho : o = 0) (hs : c.size = k) : c.extract o (o + k) = c := by subst ho; subst hs; simp
theorem splice_get : ∀ (vs : List Value) (c : Array Value) (o i : Nat), o + vs.length ≤ c.size → (splice c o vs)[i]? = if o ≤ i ∧ i < o + vs.length then vs[i - o]? else c[i]? := by
  intro vs
  induction vs with
  | nil => intro c o i _; rw [splice, if_neg (by simp)]
  | cons v vs ih =>
    intro c o i h
    simp only [List.length_cons] at h ⊢
    rw [splice, ih _ _ _ (by simp; omega)]
    by_cases h1 : i = o
    · subst h1
      rw [if_neg (by omega), if_pos ⟨Nat.le_refl _, by omega⟩]
      simp [show i < c.size by omega]
    · by_cases h2 : o + 1 ≤ i ∧ i < o + 1 + vs.length
      · rw [if_pos h2, if_pos ⟨by omega, by omega⟩, show i - o = (i - (o + 1)) + 1 by omega, List.getElem?_cons_succ]
      · rw [if_neg h2, if_neg (by omega), Array.getElem?_setIfInBounds_ne (fun e => h1 e.symm)]
theorem splice_whole {c : Array Value} {o : Nat} {vs : List Value} (ho : o = 0) (hs : vs.length = c.size) : splice c o vs = vs.toArray := by
  subst ho
  refine Array.ext_getElem? ?_
  intro i
  rw [splice_get _ _ _ _ (by omega)]
  by_cases hi : i < vs.length
  · rw [if_pos ⟨by omega, by omega⟩]; simp
  · rw [if_neg (by omega)]
    rw [Array.getElem?_eq_none (by omega), Array.getElem?_eq_none (by simp; omega)]

section
variable {P : Program} {ops : Array Oper} {S : World → Prop} {Q : Post} {d : Nat} {t ty : TypeId} {pos : String} {af : Array Edge} {os : List Oper} {os' : List TOp} {ρ : Nat → Value} {w : World} {x y : Operand} {bb : Bool}
/-- the whole block is written -/
theorem WO_storeW {b o k : Nat} {c : Array Value} {T : TypeId} {v : Value} (hS : ∀ w, (Go.sizeOf t).run P w = .ok k w) (hx : ev ρ x = .pointer (some ⟨b, o, none⟩)) (hy : ev ρ y = v)
    (hb : hp w b = some (.cells c T (0, 0))) (ho : o = 0) (hs : v.cells.size = k) (hk : c.size = k) (hv : ∀ u ∈ v.cells.toList, u.oneCell' = true)
    (h : WO P ops Q os ρ (setB w b (.cells v.cells T (0, 0)))) : WO P ops Q (⟨none, .store t x y, ty, pos, af, none⟩ :: os) ρ w := by
  refine WO_store hS hx hy hb hs (by omega) hv ?_
  rw [splice_whole ho (by simp; omega)]; simpa using h
theorem WH_storeW {b o k : Nat} {c : Array Value} {T : TypeId} {v : Value} (hS : ∀ w, (Go.sizeOf t).run P w = .ok k w) (hx : ev ρ x = .pointer (some ⟨b, o, none⟩)) (hy : ev ρ y = v)
    (hb : hp w b = some (.cells c T (0, 0))) (ho : o = 0) (hs : v.cells.size = k) (hk : c.size = k) (hv : ∀ u ∈ v.cells.toList, u.oneCell' = true)
    (hq : bb = true → S (setB w b (.cells v.cells T (0, 0))))
    (h : WH P ops S Q os' ρ (setB w b (.cells v.cells T (0, 0)))) : WH P ops S Q ((⟨none, .store t x y, ty, pos, af, none⟩, bb) :: os') ρ w := by
  have e : splice c o v.cells.toList = v.cells := by rw [splice_whole ho (by simp; omega)]
  refine WH_store hS hx hy hb hs (by omega) hv ?_ ?_
  · rw [e]; exact hq
  · rw [e]; exact h
/-- the cell is written -/
theorem WO_store1 {b o : Nat} {c : Array Value} {T : TypeId} {v : Value} (hS : ∀ w, (Go.sizeOf t).run P w = .ok 1 w) (hx : ev ρ x = .pointer (some ⟨b, o, none⟩)) (hy : ev ρ y = v)
    (hb : hp w b = some (.cells c T (0, 0))) (hc : v.cells = #[v]) (hk : o < c.size) (hv : v.oneCell' = true)
    (h : WO P ops Q os ρ (setB w b (.cells (c.setIfInBounds o v) T (0, 0)))) : WO P ops Q (⟨none, .store t x y, ty, pos, af, none⟩ :: os) ρ w := by
  refine WO_store hS hx hy hb (by rw [hc]; rfl) (by omega) (by rw [hc]; simpa using hv) ?_
  rw [hc]; exact h
theorem WH_store1 {b o : Nat} {c : Array Value} {T : TypeId} {v : Value} (hS : ∀ w, (Go.sizeOf t).run P w = .ok 1 w) (hx : ev ρ x = .pointer (some ⟨b, o, none⟩)) (hy : ev ρ y = v)
    (hb : hp w b = some (.cells c T (0, 0))) (hc : v.cells = #[v]) (hk : o < c.size) (hv : v.oneCell' = true)
    (hq : bb = true → S (setB w b (.cells (c.setIfInBounds o v) T (0, 0))))
    (h : WH P ops S Q os' ρ (setB w b (.cells (c.setIfInBounds o v) T (0, 0)))) : WH P ops S Q ((⟨none, .store t x y, ty, pos, af, none⟩, bb) :: os') ρ w := by
  refine WH_store hS hx hy hb (by rw [hc]; rfl) (by omega) (by rw [hc]; simpa using hv) ?_ ?_
  · rw [hc]; exact hq
  · rw [hc]; exact h
end
theorem fill_ints {k : IntKind} : ∀ (ps : List (Nat × Int)) (z : List Int), (ps.all fun p => Nat.ble (p.1 + 1) z.length) = true →
    Instr.fill (fun i => some (i * 1, 1)) (ic k z) (ps.map fun p => (p.1, Value.int k p.2)) = some (ic k (ps.foldl (fun acc p => acc.set p.1 p.2) z)) := by
  intro ps
  induction ps with
  | nil => intro z _; rfl
  | cons p ps ih =>
    intro z h
    simp only [List.all_cons, Bool.and_eq_true] at h
    have hlt : p.1 < z.length := Nat.le_of_ble_eq_true h.1
    have e : (ic k z).setIfInBounds p.1 (.int k p.2) = ic k (z.set p.1 p.2) := by
      simp [ic, List.map_set]
    have hs : (ic k z).size = z.length := size_ic k z
    have hc : (Value.int k p.2).cells = #[Value.int k p.2] := rfl
    simp only [List.map_cons, Instr.fill, List.foldl_cons]
    split
    · rename_i hbad
      exfalso
      simp [hc, hs] at hbad
      omega
    · have e2 : Array.foldl (fun cs x => cs.setIfInBounds (p.1 * 1 + x.2) x.1) (ic k z) ((Value.int k p.2).cells.zipIdx) = ic k (z.set p.1 p.2) := by
        rw [← e, hc]; simp
      rw [e2]
      refine ih _ ?_
      simpa using h.2
theorem PS_buildI {P : Program} {t e : TypeId} {ρ : Nat → Value} {n : Nat} {k : IntKind} {z : Value} {l : List (Nat × Operand)} {zs L : List Int} {ps : List (Nat × Int)} (hz : ∀ w, (zeroValue t).run P w = .ok z w) (hU : ∀ w, (underlying t).run P w = .ok (.array n e) w) (hS : ∀ w, (Go.sizeOf e).run P w = .ok 1 w)
    (hzz : z = .agg (ic k zs)) (hv : (l.map fun p => (p.1, ev ρ p.2)) = ps.map fun p => (p.1, Value.int k p.2)) (hb : (ps.all fun p => Nat.ble (p.1 + 1) zs.length) = true) (hL : ps.foldl (fun acc p => acc.set p.1 p.2) zs = L) :
    PS P (.build t l.toArray) ρ (.agg (ic k L)) := by
  subst hzz; subst hL
  exact PS_buildA hz hU hS (by rw [hv]; exact fill_ints ps zs hb)
theorem oneCell_ic {k : IntKind} {l : List Int} : ∀ u ∈ (Value.agg (ic k l)).cells.toList, u.oneCell' = true := by
  intro u hu
  simp only [Value.cells, ic, List.mem_map] at hu
  obtain ⟨n, _, rfl⟩ := hu
  rfl
theorem ic_get (k : IntKind) (l : List Int) (i : Nat) : (ic k l)[i]? = (l[i]?).map (Value.int k) := by simp [ic]
end Go.Proofs.YgvacwGreat
