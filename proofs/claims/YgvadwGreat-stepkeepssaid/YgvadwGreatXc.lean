import Derived.Test.YgvadwGreatXb
import Derived.Test.YgvadwGreatWf
namespace Go.Proofs.YgvadwGreat
set_option linter.unusedSimpArgs false
set_option linter.unusedVariables false
/-- a vault that is being filled -/
structure FilV (v : V) (na ns : Nat) (S : Int) : Prop where
  vi : VInv v
  la : v.accts.length ≤ na
  ls : v.slots.length ≤ ns
  jl : v.journal = []
  lg : v.logs = []
  rf : v.ref = 0
  tp : v.temps = []
  nm : v.nmarks = 0
  acY : ∀ x ∈ v.accts, x.warm = false ∧ x.made = false ∧ x.gone = false
  sl : ∀ x ∈ v.slots, x.warm = false ∧ x.orig = x.val
  sm : sumW v.sc.bals ≤ S
/-- a vault whose tables are being emptied -/
structure ZV (v : V) (i : Nat) : Prop where
  a : v.accts = []
  s : v.slots = []
  j : v.journal = []
  l : v.logs = []
  t : v.temps = []
  tt : v.ttab = []
  rf : v.ref = 0
  nm : v.nmarks = 0
  ta : ∀ k, k < i → v.atab k = -1 ∧ v.stab k = -1
theorem cntT_m1 {tab : Nat → Int} : ∀ m, (∀ p, p < m → tab p = -1) → cntT tab m = 0
  | 0, _ => rfl
  | m + 1, h => by
    unfold cntT
    rw [cntT_m1 m (fun p hp => h p (by omega)), h m (by omega)]; rfl
theorem TabOK.empty {tab : Nat → Int} {m : Nat} (h : ∀ p, p < m → tab p = -1) : TabOK tab m 0 :=
  ⟨fun p hp => Or.inl (h p hp), fun p q hp _ h0 _ => by rw [h p hp] at h0; omega, cntT_m1 m h⟩
theorem ZV.fil {v : V} (h : ZV v 4096) : FilV v 0 0 0 where
  vi := { nm := by rw [h.nm]; omega, rf := by rw [h.rf]; omega, la := by rw [h.a]; simp, ls := by rw [h.s]; simp, lj := by rw [h.j]; simp, lt := by rw [h.t]; simp
          sl := by rw [h.s]; simp
          tl := by rw [h.t]; simp
          cd := by rw [h.a]; simp
          ta := by rw [h.a]; exact TabOK.empty fun p hp => (h.ta p hp).1
          ts := by rw [h.s]; exact TabOK.empty fun p hp => (h.ta p hp).2
          fa := by rw [h.a]; simp
          fs := by rw [h.s]; simp
          tt := Or.inr ⟨h.tt, h.t⟩
          ft := by rw [h.t]; simp
          m0 := fun i hi => by rw [h.nm] at hi; omega
          mm := fun i j _ hj => by rw [h.nm] at hj; omega
          je := by rw [h.j]; simp
          lg := by rw [h.j, h.l]; rfl
          ld := by rw [h.l]; simp }
  la := by rw [h.a]; simp
  ls := by rw [h.s]; simp
  jl := h.j
  lg := h.l
  rf := h.rf
  tp := h.t
  nm := h.nm
  acY := by rw [h.a]; simp
  sl := by rw [h.s]; simp
  sm := by unfold V.sc; rw [h.a]; simp [sumW]
theorem FilV.mono {v : V} {na ns na' ns' : Nat} {S S' : Int} (h : FilV v na ns S) (h1 : na ≤ na') (h2 : ns ≤ ns') (h3 : S ≤ S') : FilV v na' ns' S' :=
  { h with la := Nat.le_trans h.la h1, ls := Nat.le_trans h.ls h2, sm := Int.le_trans h.sm h3 }
theorem FilV.acct {v : V} {na ns : Nat} {S : Int} (h : FilV v na ns S) (hna : na < 2560) (A : List Int) : FilV (v.acct A).2 (na + 1) ns S ∧ ∃ i : Nat, ∃ x, (v.acct A).1 = ((i : Int), true) ∧ (v.acct A).2.accts[i]? = some x ∧ (v.acct A).2.slots = v.slots := by
  obtain ⟨i, a, g⟩ := acct_go h.vi (A := A) (Or.inr (by have := h.la; omega))
  have ho := g.oth
  have ha1 := g.a1
  have hsc := (AcctGo.sc g).1.bals
  refine ⟨{ vi := g.inv, la := ?_, ls := ?_, jl := ?_, lg := ?_, rf := ?_, tp := ?_, nm := ?_, acY := ?_, sl := ?_, sm := ?_ }, i, _, g.ok, g.at_, ?_⟩
  · rw [g.acc, List.length_append, List.length_replicate]; have := h.la; omega
  · rw [ho]; exact h.ls
  · rw [ho]; exact h.jl
  · rw [ho]; exact h.lg
  · rw [ho]; exact h.rf
  · rw [ho]; exact h.tp
  · rw [ho]; exact h.nm
  · intro x hx
    rw [g.acc] at hx
    rcases List.mem_append.1 hx with hx | hx
    · exact h.acY x hx
    · rw [List.mem_replicate] at hx; rw [hx.2]; exact ⟨rfl, rfl, rfl⟩
  · rw [ho]; exact h.sl
  · rw [hsc, sumW_append, sumW_zero]; have := h.sm; omega
  · rw [ho]
theorem mem_set_of {α : Type} {l : List α} {i : Nat} {x y : α} (h : x ∈ l.set i y) : x ∈ l ∨ x = y := List.mem_or_eq_of_mem_set h
theorem FilV.updA {v : V} {na ns : Nat} {S : Int} (h : FilV v na ns S) {i : Nat} {x x' : Acct} (hx : v.accts[i]? = some x) (ha : x'.addr = x.addr) (hc : CodeOK x'.code) (hw : x'.warm = x.warm ∧ x'.made = x.made ∧ x'.gone = x.gone) (h0 : 0 ≤ wv x.bal) : FilV { v with accts := v.accts.set i x' } na ns (S + (if x'.bal = x.bal then 0 else wv x'.bal)) := by
  have hm := h.acY x (List.mem_of_getElem? hx)
  refine { vi := h.vi.updA hx ha hc, la := by rw [List.length_set]; exact h.la, ls := h.ls, jl := h.jl, lg := h.lg, rf := h.rf, tp := h.tp, nm := h.nm, acY := ?_, sl := h.sl, sm := ?_ }
  · intro y hy
    rcases mem_set_of hy with hy | rfl
    · exact h.acY y hy
    · rw [hw.1, hw.2.1, hw.2.2]; exact hm
  · have hs := h.sm
    unfold V.sc at hs ⊢
    dsimp only at hs ⊢
    rw [List.map_set]
    have e := sumW_set (v.accts.map (·.bal)) i x.bal x'.bal (by rw [List.getElem?_map, hx]; rfl)
    split
    · rename_i hb; rw [hb] at e ⊢; omega
    · omega
theorem FilV.slot {v : V} {na ns : Nat} {S : Int} (h : FilV v na ns S) (hns : ns < 2560) {a : Int} (ha : 0 ≤ a ∧ a < v.accts.length) (K : List Int) : FilV (v.slot a K).2 na (ns + 1) S ∧ ∃ i : Nat, ∃ x, (v.slot a K).1 = ((i : Int), true) ∧ (v.slot a K).2.slots[i]? = some x ∧ x.warm = false ∧ (v.slot a K).2.accts = v.accts := by
  have hls := h.ls
  unfold V.slot
  by_cases h1 : 0 ≤ (v.findS a K).1
  · rw [if_pos h1]
    have hl := findS_lt h1
    obtain ⟨i, hi⟩ : ∃ i : Nat, (v.findS a K).1 = (i : Int) := ⟨(v.findS a K).1.toNat, by omega⟩
    have hil : i < v.slots.length := by omega
    exact ⟨h.mono (Nat.le_refl _) (by omega) (Int.le_refl _), i, v.slots[i], by rw [hi], List.getElem?_eq_getElem hil, (h.sl _ (List.getElem_mem hil)).1, rfl⟩
  · rw [if_neg h1]
    obtain ⟨h2, h3⟩ := h.vi.addS (K := K) ha (by omega) (by omega : v.slots.length < 2560)
    rw [if_neg (by omega)]
    refine ⟨{ vi := h3, la := h.la, ls := ?_, jl := h.jl, lg := h.lg, rf := h.rf, tp := h.tp, nm := h.nm, acY := h.acY, sl := ?_, sm := h.sm }, v.slots.length, newS a K, rfl, ?_, rfl, rfl⟩
    · simp; omega
    · intro y hy
      rcases List.mem_append.1 hy with hy | hy
      · exact h.sl y hy
      · rw [List.mem_singleton.1 hy]; exact ⟨rfl, rfl⟩
    · simp
theorem FilV.updS {v : V} {na ns : Nat} {S : Int} (h : FilV v na ns S) {i : Nat} {x x' : Slot} (hx : v.slots[i]? = some x) (ha : x'.acct = x.acct ∧ x'.key = x.key) (hw : x'.warm = false ∧ x'.orig = x'.val) : FilV { v with slots := v.slots.set i x' } na ns S :=
  { vi := h.vi.updS hx ha, la := h.la, ls := by rw [List.length_set]; exact h.ls, jl := h.jl, lg := h.lg, rf := h.rf, tp := h.tp, nm := h.nm, acY := h.acY, sm := h.sm
    sl := fun y hy => by
      rcases mem_set_of hy with hy | rfl
      · exact h.sl y hy
      · exact hw }
end Go.Proofs.YgvadwGreat
