import Derived.Test.YgvacwGreatWf
import Derived.Test.YgvacwGreatVf
namespace Go.Proofs.YgvacwGreat
set_option linter.unusedSimpArgs false
set_option linter.unusedVariables false
/-! the vault seen by lookups, now and in the past -/
def lkG {α κ : Type} [∀ a b : κ, Decidable (a = b)] (key : α → κ) (l : List α) (k : κ) : Option α := l.find? (fun x => decide (key x = k))
def lkA (l : List Acct) (A : List Int) : Acct := (lkG (fun x => x.addr) l A).getD (newA A)
def adrOf (l : List Acct) (i : Int) : Option (List Int) := (l[i.toNat]?).map (·.addr)
abbrev SvT := List Int × List Int × Bool
def slT (x : Slot) : SvT := (x.val, x.orig, x.warm)
def sl0 : SvT := ([0, 0, 0, 0], [0, 0, 0, 0], false)
abbrev KeyT := Option (List Int) × List Int
def keyS (la : List Acct) (r : Slot) : KeyT := (adrOf la r.acct, r.key)
def keyT (la : List Acct) (r : Temp) : KeyT := (adrOf la r.acct, r.key)
def lkS (la : List Acct) (ls : List Slot) (A K : List Int) : SvT := ((lkG (keyS la) ls (some A, K)).map slT).getD sl0
def lkT (la : List Acct) (lt : List Temp) (A K : List Int) : List Int := ((lkG (keyT la) lt (some A, K)).map (·.val)).getD [0, 0, 0, 0]
structure Sx where
  a : List Acct
  s : List Slot
  t : List Temp
  ref : Int
  n : Nat
def V.sx (v : V) : Sx := ⟨v.accts, v.slots, v.temps, v.ref, v.logs.length⟩
def Sx.back (e : Entry) (s : Sx) : Sx :=
  if e.isA then { s with a := s.a.modify e.at_.toNat (undoA e) }
  else if e.isS then { s with s := s.s.modify e.at_.toNat (undoS e) }
  else if e.kind = 8 then { s with t := s.t.modify e.at_.toNat (fun x => { x with val := e.w }) }
  else if e.kind = 6 then { s with ref := e.n }
  else if e.kind = 7 then { s with n := s.n - 1 }
  else s
def V.past (v : V) (k : Nat) : Sx := (v.journal.drop k).foldr Sx.back v.sx
theorem past_end (v : V) : v.past v.journal.length = v.sx := by unfold V.past; rw [List.drop_length]; rfl
theorem set_mod {α : Type} {l : List α} {i : Nat} {x : α} (f : α → α) (h : l[i]? = some x) : l.set i (f x) = l.modify i f := by
  refine List.ext_getElem? fun j => ?_
  rw [List.getElem?_set, List.getElem?_modify]
  by_cases hij : i = j
  · subst hij
    have hl := lt_of_getElem? h
    rw [h]; simp [hl]
  · simp [hij]
theorem undoA_addr (e : Entry) (x : Acct) : (undoA e x).addr = x.addr := by
  unfold undoA; repeat' split
  all_goals rfl
theorem undoS_k (e : Entry) (x : Slot) : (undoS e x).acct = x.acct ∧ (undoS e x).key = x.key ∧ (undoS e x).orig = x.orig := by
  unfold undoS; split <;> exact ⟨rfl, rfl, rfl⟩
theorem undo_sx {v u : V} {e : Entry} (h : v.undo e = some u) : u.sx = Sx.back e v.sx := by
  unfold V.undo at h
  unfold Sx.back
  split at h
  · rename_i hA
    rw [if_pos hA]
    split at h
    · cases h
    · rw [Option.map_eq_some_iff] at h
      obtain ⟨x, hx, rfl⟩ := h
      simp only [V.sx, set_mod (undoA e) hx]
  · rename_i hA
    rw [if_neg hA]
    split at h
    · rename_i hS
      rw [if_pos hS]
      split at h
      · cases h
      · rw [Option.map_eq_some_iff] at h
        obtain ⟨x, hx, rfl⟩ := h
        simp only [V.sx, set_mod (undoS e) hx]
    · rename_i hS
      rw [if_neg hS]
      split at h
      · rename_i h8
        rw [if_pos h8]
        split at h
        · cases h
        · rw [Option.map_eq_some_iff] at h
          obtain ⟨x, hx, rfl⟩ := h
          simp only [V.sx, set_mod (fun x : Temp => { x with val := e.w }) hx]
      · rename_i h8
        rw [if_neg h8]
        split at h
        · rename_i h6
          rw [if_pos h6]
          cases h; rfl
        · rename_i h6
          rw [if_neg h6]
          split at h
          · rename_i h7
            rw [if_pos h7]
            split at h
            · cases h
            · cases h
              simp only [V.sx, List.length_take]
              congr 1; omega
          · cases h
theorem undoAll_sx (k : Nat) : ∀ (f : Nat) (v : V), VInv v → 0 < v.nmarks → v.marks (v.nmarks - 1).toNat = k → v.journal.length ≤ k + f → (V.undoAll f v).sx = v.past k
  | 0, v, h, h0, hk, hf => by
    have := h.m0 (v.nmarks - 1).toNat (by omega)
    have hl : v.journal.length = k := by omega
    rw [← hl, past_end]; rfl
  | f + 1, v, h, h0, hk, hf => by
    have hm := h.m0 (v.nmarks - 1).toNat (by omega)
    have hnm := h.nm
    unfold V.undoAll
    by_cases hl : v.journal.length = k
    · have hc : ¬ v.canUndo := by
        intro hc
        apply hc
        refine Or.inr ⟨?_, by omega⟩
        unfold V.live; simp; omega
      have e : v.undoOne = none := by unfold V.undoOne; rw [if_neg hc]
      rw [e, ← hl, past_end]
    · have hlt : k < v.journal.length := by omega
      have hc : v.canUndo := by
        rintro (hc | ⟨_, hc⟩) <;> omega
      obtain ⟨e, he⟩ : ∃ e, v.journal[v.journal.length - 1]? = some e := ⟨_, List.getElem?_eq_getElem (by omega)⟩
      obtain ⟨u, hu, hui⟩ := h.undo he (fun i hi => by have := h.mm i (v.nmarks - 1).toNat (by omega) (by omega); omega)
      have hj := undo_journal hu
      have e1 : v.undoOne = some { u with journal := v.journal.take (v.journal.length - 1) } := by
        unfold V.undoOne; rw [if_pos hc, he]; simp only [hu, Option.map_some, hj.1]
      rw [e1]
      simp only
      have ih := undoAll_sx k f { u with journal := v.journal.take (v.journal.length - 1) } hui (by show 0 < u.nmarks; rw [hj.2.1]; exact h0) (by show u.marks (u.nmarks - 1).toNat = _; rw [hj.2.1, hj.2.2]; exact hk) (by show (v.journal.take (v.journal.length - 1)).length ≤ _; rw [List.length_take]; omega)
      rw [ih]
      have hsplit : v.journal = v.journal.take (v.journal.length - 1) ++ [e] := by
        conv => lhs; rw [← List.take_append_drop (v.journal.length - 1) v.journal]
        congr 1
        refine List.ext_getElem? fun i => ?_
        rw [List.getElem?_drop]
        cases i with
        | zero => rw [Nat.add_zero, he]; rfl
        | succ i => rw [List.getElem?_eq_none (by omega)]; simp
      show ((v.journal.take (v.journal.length - 1)).drop k).foldr Sx.back u.sx = (v.journal.drop k).foldr Sx.back v.sx
      conv => rhs; rw [hsplit]
      rw [List.drop_append_of_le_length (by rw [List.length_take]; omega), List.foldr_append, undo_sx hu]
      rfl
/-- what reverting leaves, exactly -/
theorem revertTo_sx {v : V} (h : VInv v) {id : Int} (h0 : 0 ≤ id) (h1 : id < v.nmarks) : (v.revertTo id).2.sx = v.past (v.marks id.toNat).toNat ∧ (∀ i, i ≤ (v.marks id.toNat).toNat → (v.revertTo id).2.past i = v.past i) ∧ (v.revertTo id).2.marks = v.marks := by
  have hnm := h.nm
  have hlive : v.live id = true := by unfold V.live; simp; omega
  have e : v.revertTo id = (true, { (V.undoAll v.journal.length { v with nmarks := id + 1 }) with nmarks := id }) := by unfold V.revertTo; rw [if_pos hlive]
  rw [e]
  have hv1 : VInv { v with nmarks := id + 1 } := { h with
    nm := by show 0 ≤ id + 1 ∧ id + 1 ≤ 16384; omega
    m0 := fun i hi => h.m0 i (by have : (i : Int) < id + 1 := hi; omega)
    mm := fun i j hij hj => h.mm i j hij (by have : (j : Int) < id + 1 := hj; omega) }
  have hmk := h.m0 id.toNat (by omega)
  have hk : ({ v with nmarks := id + 1 } : V).marks (({ v with nmarks := id + 1 } : V).nmarks - 1).toNat = ((v.marks id.toNat).toNat : Int) := by show v.marks (id + 1 - 1).toNat = _; rw [Int.toNat_of_nonneg hmk.1]; congr 2; omega
  have hB := undoAll_go (v.marks id.toNat).toNat v.journal.length { v with nmarks := id + 1 } hv1 (by show 0 < id + 1; omega) hk (by show v.journal.length ≤ _; omega)
  have hS := undoAll_sx (v.marks id.toNat).toNat v.journal.length { v with nmarks := id + 1 } hv1 (by show 0 < id + 1; omega) hk (by show v.journal.length ≤ _; omega)
  generalize V.undoAll v.journal.length { v with nmarks := id + 1 } = u at hB hS
  have hju : u.journal = v.journal.take (v.marks id.toNat).toNat := hB.j
  have hsu : u.sx = v.past (v.marks id.toNat).toNat := hS
  refine ⟨hsu, ?_, hB.mrk⟩
  intro i hi
  show (u.journal.drop i).foldr Sx.back u.sx = (v.journal.drop i).foldr Sx.back v.sx
  rw [hju, hsu]
  show ((v.journal.take (v.marks id.toNat).toNat).drop i).foldr Sx.back ((v.journal.drop (v.marks id.toNat).toNat).foldr Sx.back v.sx) = _
  rw [← List.foldr_append]
  congr 1
  generalize (v.marks id.toNat).toNat = k at hi ⊢
  conv => rhs; rw [← List.take_append_drop k v.journal]
  by_cases hl : k ≤ v.journal.length
  · rw [List.drop_append_of_le_length (by rw [List.length_take]; omega)]
  · rw [List.take_of_length_le (by omega), List.drop_of_length_le (by omega : v.journal.length ≤ k)]; simp
/-! the rows' order -/
structure Rng (z : Sx) : Prop where
  s : ∀ x ∈ z.s, 0 ≤ x.acct ∧ x.acct < z.a.length
  t : ∀ x ∈ z.t, 0 ≤ x.acct ∧ x.acct < z.a.length
structure SInv (z : Sx) : Prop extends Rng z where
  ua : ∀ (i j : Nat) x y, z.a[i]? = some x → z.a[j]? = some y → x.addr = y.addr → i = j
  us : ∀ (i j : Nat) x y, z.s[i]? = some x → z.s[j]? = some y → x.acct = y.acct → x.key = y.key → i = j
  ut : ∀ (i j : Nat) x y, z.t[i]? = some x → z.t[j]? = some y → x.acct = y.acct → x.key = y.key → i = j
theorem VInv.sx {v : V} (h : VInv v) : SInv v.sx where
  s := h.sl
  t := h.tl
  ua := fun i j x y hx hy he => by have h1 := h.fa i x hx; have h2 := h.fa j y hy; rw [he] at h1; omega
  us := fun i j x y hx hy he hk => by have h1 := h.fs i x hx; have h2 := h.fs j y hy; rw [he, hk] at h1; omega
  ut := fun i j x y hx hy he hk => by have h1 := h.ft i x hx; have h2 := h.ft j y hy; rw [he, hk] at h1; omega
theorem mem_modify {α : Type} {l : List α} {i : Nat} {f : α → α} {y : α} (h : y ∈ l.modify i f) : ∃ x ∈ l, y = x ∨ y = f x := by
  obtain ⟨j, hj⟩ := List.mem_iff_getElem?.1 h
  rw [List.getElem?_modify] at hj
  cases hx : l[j]? with
  | none => rw [hx] at hj; simp at hj
  | some x =>
    rw [hx] at hj
    simp only [Option.map_eq_map, Option.map_some, Option.some.injEq] at hj
    refine ⟨x, List.mem_of_getElem? hx, ?_⟩
    split at hj
    · exact Or.inr hj.symm
    · exact Or.inl hj.symm
theorem Rng.back {s : Sx} (h : Rng s) (e : Entry) : Rng (Sx.back e s) := by
  unfold Sx.back
  repeat' split
  · exact ⟨fun x hx => by show _ ∧ _ < ((s.a.modify _ _).length : Int); rw [List.length_modify]; exact h.s x hx, fun x hx => by show _ ∧ _ < ((s.a.modify _ _).length : Int); rw [List.length_modify]; exact h.t x hx⟩
  · refine ⟨fun x hx => ?_, h.t⟩
    obtain ⟨y, hy, hh⟩ := mem_modify hx
    rcases hh with hh | hh
    · rw [hh]; exact h.s y hy
    · rw [hh, (undoS_k e y).1]; exact h.s y hy
  · refine ⟨h.s, fun x hx => ?_⟩
    obtain ⟨y, hy, hh⟩ := mem_modify hx
    rcases hh with hh | hh
    · rw [hh]; exact h.t y hy
    · rw [hh]; exact h.t y hy
  · exact ⟨h.s, h.t⟩
  · exact ⟨h.s, h.t⟩
  · exact h
theorem Rng.foldr {s : Sx} (h : Rng s) : ∀ l : List Entry, Rng (l.foldr Sx.back s)
  | [] => h
  | e :: l => (Rng.foldr h l).back e
theorem past_rng {v : V} (h : VInv v) (k : Nat) : Rng (v.past k) := Rng.foldr h.sx.toRng _
/-- zero rows are added -/
structure SxE (z z' : Sx) : Prop where
  a : ∃ L, z'.a = z.a ++ L ∧ ∀ x ∈ L, x = newA x.addr
  s : ∃ L, z'.s = z.s ++ L ∧ ∀ x ∈ L, slT x = sl0
  t : ∃ L, z'.t = z.t ++ L ∧ ∀ x ∈ L, x.val = [0, 0, 0, 0]
  ref : z'.ref = z.ref
  n : z'.n = z.n
theorem SxE.refl (s : Sx) : SxE s s := ⟨⟨[], by simp, by simp⟩, ⟨[], by simp, by simp⟩, ⟨[], by simp, by simp⟩, rfl, rfl⟩
theorem SxE.trans {s s1 s2 : Sx} (h : SxE s s1) (h' : SxE s1 s2) : SxE s s2 := by
  obtain ⟨a1, ha1, ha2⟩ := h.a
  obtain ⟨b1, hb1, hb2⟩ := h.s
  obtain ⟨c1, hc1, hc2⟩ := h.t
  obtain ⟨a3, ha3, ha4⟩ := h'.a
  obtain ⟨b3, hb3, hb4⟩ := h'.s
  obtain ⟨c3, hc3, hc4⟩ := h'.t
  refine ⟨⟨a1 ++ a3, by rw [ha3, ha1, List.append_assoc], ?_⟩, ⟨b1 ++ b3, by rw [hb3, hb1, List.append_assoc], ?_⟩, ⟨c1 ++ c3, by rw [hc3, hc1, List.append_assoc], ?_⟩, h'.ref.trans h.ref, h'.n.trans h.n⟩
  · intro x hx; rcases List.mem_append.1 hx with hx | hx; exact ha2 x hx; exact ha4 x hx
  · intro x hx; rcases List.mem_append.1 hx with hx | hx; exact hb2 x hx; exact hb4 x hx
  · intro x hx; rcases List.mem_append.1 hx with hx | hx; exact hc2 x hx; exact hc4 x hx
theorem find?_congr' {α : Type} {p q : α → Bool} : ∀ {l : List α}, (∀ x ∈ l, p x = q x) → l.find? p = l.find? q
  | [], _ => rfl
  | a :: l, h => by
    rw [List.find?_cons, List.find?_cons, h a (by simp), find?_congr' (fun x hx => h x (by simp [hx]))]
theorem lkG_app {α κ : Type} [∀ a b : κ, Decidable (a = b)] (key : α → κ) (l L : List α) (k : κ) : lkG key (l ++ L) k = (lkG key l k).or (lkG key L k) := List.find?_append
theorem lkG_some {α κ : Type} [∀ a b : κ, Decidable (a = b)] {key : α → κ} {l : List α} {k : κ} {x : α} (h : lkG key l k = some x) : x ∈ l ∧ key x = k := ⟨List.mem_of_find?_eq_some h, by have := List.find?_some h; simpa using this⟩
theorem lkG_none {α κ : Type} [∀ a b : κ, Decidable (a = b)] {key : α → κ} {l : List α} {k : κ} : lkG key l k = none ↔ ∀ x ∈ l, key x ≠ k := by unfold lkG; rw [List.find?_eq_none]; simp
theorem lkG_congr {α κ : Type} [∀ a b : κ, Decidable (a = b)] {key key' : α → κ} {l : List α} {k : κ} (h : ∀ x ∈ l, key' x = key x) : lkG key' l k = lkG key l k := find?_congr' (fun x hx => by rw [h x hx])
def Uq {α κ : Type} (key : α → κ) (l : List α) : Prop := ∀ (i j : Nat) x y, l[i]? = some x → l[j]? = some y → key x = key y → i = j
theorem lkG_hit {α κ : Type} [∀ a b : κ, Decidable (a = b)] {key : α → κ} {l : List α} {k : κ} {i : Nat} {x : α} (hu : Uq key l) (hx : l[i]? = some x) (hk : key x = k) : lkG key l k = some x := by
  cases h : lkG key l k with
  | none => exact absurd hk (lkG_none.1 h x (List.mem_of_getElem? hx))
  | some y =>
    obtain ⟨h1, h2⟩ := lkG_some h
    obtain ⟨j, hj⟩ := List.getElem?_of_mem h1
    have := hu i j x y hx hj (hk.trans h2.symm)
    subst this
    rw [hx] at hj; exact hj.symm
theorem get_mod {α : Type} {l : List α} {i j : Nat} {f : α → α} : (l.modify i f)[j]? = (l[j]?).map (fun x => if i = j then f x else x) := by rw [List.getElem?_modify]; rfl
theorem Uq.mod {α κ : Type} {key : α → κ} {l : List α} {i : Nat} {g : α → α} (hu : Uq key l) (hg : ∀ x, key (g x) = key x) : Uq key (l.modify i g) := by
  intro a b x y hx hy hk
  rw [get_mod, Option.map_eq_some_iff] at hx hy
  obtain ⟨x0, hx0, hx1⟩ := hx
  obtain ⟨y0, hy0, hy1⟩ := hy
  refine hu a b x0 y0 hx0 hy0 ?_
  have e1 : key x = key x0 := by rw [← hx1]; split; exact hg _; rfl
  have e2 : key y = key y0 := by rw [← hy1]; split; exact hg _; rfl
  rw [← e1, ← e2, hk]
theorem lkG_mod {α κ : Type} [∀ a b : κ, Decidable (a = b)] {key : α → κ} {l : List α} {i : Nat} {x : α} {g : α → α} (hu : Uq key l) (hx : l[i]? = some x) (hg : ∀ x, key (g x) = key x) (k : κ) : lkG key (l.modify i g) k = if k = key x then some (g x) else lkG key l k := by
  split
  · rename_i hk
    exact lkG_hit (i := i) (hu.mod hg) (by rw [get_mod, hx]; simp) (by rw [hg, hk])
  · rename_i hk
    cases h : lkG key l k with
    | none =>
      rw [lkG_none] at h ⊢
      intro y hy
      obtain ⟨z, hz, hh⟩ := mem_modify hy
      rcases hh with hh | hh
      · rw [hh]; exact h z hz
      · rw [hh, hg]; exact h z hz
    | some y =>
      obtain ⟨h1, h2⟩ := lkG_some h
      obtain ⟨j, hj⟩ := List.getElem?_of_mem h1
      refine lkG_hit (i := j) (hu.mod hg) ?_ h2
      rw [get_mod, hj]
      have : i ≠ j := by
        intro e; subst e
        rw [hx] at hj; cases hj
        exact hk h2.symm
      simp [this]
theorem lkA_ext {l L : List Acct} (hL : ∀ x ∈ L, x = newA x.addr) (A : List Int) : lkA (l ++ L) A = lkA l A := by
  unfold lkA
  rw [lkG_app]
  cases h1 : lkG (fun x : Acct => x.addr) l A with
  | some x => rfl
  | none =>
    cases h2 : lkG (fun x : Acct => x.addr) L A with
    | none => rfl
    | some y =>
      obtain ⟨h3, h4⟩ := lkG_some h2
      simp only [Option.none_or, Option.getD_some, Option.getD_none]
      rw [hL y h3, h4]
theorem adrOf_ext {l L : List Acct} {i : Int} (h : 0 ≤ i ∧ i < l.length) : adrOf (l ++ L) i = adrOf l i := by
  unfold adrOf; rw [List.getElem?_append_left (by omega)]
theorem lkS_ext {s s' : Sx} (h : SxE s s') (hr : Rng s) (A K : List Int) : lkS s'.a s'.s A K = lkS s.a s.s A K := by
  obtain ⟨a1, ha1, ha2⟩ := h.a
  obtain ⟨b1, hb1, hb2⟩ := h.s
  unfold lkS
  rw [hb1, lkG_app, lkG_congr (key := keyS s.a) (l := s.s) (fun x hx => by unfold keyS; rw [ha1, adrOf_ext (hr.s x hx)])]
  cases h1 : lkG (keyS s.a) s.s (some A, K) with
  | some x => rfl
  | none =>
    cases h2 : lkG (keyS s'.a) b1 (some A, K) with
    | none => rfl
    | some y =>
      simp only [Option.none_or, Option.map_some, Option.getD_some, Option.map_none, Option.getD_none]
      exact hb2 y (lkG_some h2).1
theorem lkT_ext {s s' : Sx} (h : SxE s s') (hr : Rng s) (A K : List Int) : lkT s'.a s'.t A K = lkT s.a s.t A K := by
  obtain ⟨a1, ha1, ha2⟩ := h.a
  obtain ⟨b1, hb1, hb2⟩ := h.t
  unfold lkT
  rw [hb1, lkG_app, lkG_congr (key := keyT s.a) (l := s.t) (fun x hx => by unfold keyT; rw [ha1, adrOf_ext (hr.t x hx)])]
  cases h1 : lkG (keyT s.a) s.t (some A, K) with
  | some x => rfl
  | none =>
    cases h2 : lkG (keyT s'.a) b1 (some A, K) with
    | none => rfl
    | some y =>
      simp only [Option.none_or, Option.map_some, Option.getD_some, Option.map_none, Option.getD_none]
      exact hb2 y (lkG_some h2).1
theorem mod_app {α : Type} {l L : List α} {i : Nat} {f : α → α} (h : i < l.length) : (l ++ L).modify i f = l.modify i f ++ L := by
  refine List.ext_getElem? fun j => ?_
  rw [List.getElem?_modify]
  by_cases hj : j < l.length
  · rw [List.getElem?_append_left hj, List.getElem?_append_left (by rw [List.length_modify]; exact hj), List.getElem?_modify]
  · rw [List.getElem?_append_right (by omega), List.getElem?_append_right (by rw [List.length_modify]; omega), List.length_modify]
    have : i ≠ j := by omega
    simp [this]
def Sx.has (s : Sx) (e : Entry) : Prop := (e.isA → e.at_.toNat < s.a.length) ∧ (e.isS → e.at_.toNat < s.s.length) ∧ (e.kind = 8 → e.at_.toNat < s.t.length)
theorem SxE.back {s s' : Sx} (h : SxE s s') {e : Entry} (he : s.has e) : SxE (Sx.back e s) (Sx.back e s') := by
  obtain ⟨a1, ha1, ha2⟩ := h.a
  obtain ⟨b1, hb1, hb2⟩ := h.s
  obtain ⟨c1, hc1, hc2⟩ := h.t
  unfold Sx.back
  split
  · rename_i hk
    exact ⟨⟨a1, by show s'.a.modify _ _ = _; rw [ha1, mod_app (he.1 hk)], ha2⟩, h.s, h.t, h.ref, h.n⟩
  · split
    · rename_i hk
      exact ⟨h.a, ⟨b1, by show s'.s.modify _ _ = _; rw [hb1, mod_app (he.2.1 hk)], hb2⟩, h.t, h.ref, h.n⟩
    · split
      · rename_i hk
        exact ⟨h.a, h.s, ⟨c1, by show s'.t.modify _ _ = _; rw [hc1, mod_app (he.2.2 hk)], hc2⟩, h.ref, h.n⟩
      · split
        · exact ⟨h.a, h.s, h.t, rfl, h.n⟩
        · split
          · exact ⟨h.a, h.s, h.t, h.ref, by show s'.n - 1 = s.n - 1; rw [h.n]⟩
          · exact h
theorem xback_len (e : Entry) (s : Sx) : (Sx.back e s).a.length = s.a.length ∧ (Sx.back e s).s.length = s.s.length ∧ (Sx.back e s).t.length = s.t.length := by
  unfold Sx.back
  repeat' split
  all_goals simp
theorem Sx.has.back {s : Sx} {e : Entry} (h : s.has e) (e' : Entry) : (Sx.back e' s).has e := by
  have := xback_len e' s
  unfold Sx.has at *
  rw [this.1, this.2.1, this.2.2]; exact h
theorem Sx.has.foldr {s : Sx} {e : Entry} (h : s.has e) : ∀ l : List Entry, (l.foldr Sx.back s).has e
  | [] => h
  | e' :: l => (Sx.has.foldr h l).back e'
theorem SxE.foldr {s s' : Sx} (h : SxE s s') : ∀ (l : List Entry), (∀ e ∈ l, s.has e) → SxE (l.foldr Sx.back s) (l.foldr Sx.back s')
  | [], _ => h
  | e :: l, hl => (SxE.foldr h l (fun e' he' => hl e' (by simp [he']))).back ((hl e (by simp)).foldr l)
theorem V.sx_has {v : V} {e : Entry} (h : EntryOK v.accts.length v.slots.length v.temps.length e) : v.sx.has e := by
  have h1 := h.a
  unfold eSize at h1
  refine ⟨fun hk => ?_, fun hk => ?_, fun hk => ?_⟩
  · rw [if_pos hk] at h1; show _ < v.accts.length; omega
  · rw [if_neg (by omega), if_neg (by omega), if_pos hk] at h1; show _ < v.slots.length; omega
  · rw [if_neg (by omega), if_pos hk] at h1; show _ < v.temps.length; omega
theorem past_push {v v' : V} (h : VInv v) {e : Entry} (hj : v'.journal = v.journal ++ [e]) (hb : SxE v.sx (Sx.back e v'.sx)) {k : Nat} (hk : k ≤ v.journal.length) : SxE (v.past k) (v'.past k) := by
  unfold V.past
  rw [hj, List.drop_append_of_le_length hk, List.foldr_append]
  exact SxE.foldr hb _ (fun e' he' => V.sx_has (h.je e' (List.mem_of_mem_drop he')))
theorem past_grow {v v' : V} (h : VInv v) (hj : v'.journal = v.journal) (hb : SxE v.sx v'.sx) (k : Nat) : SxE (v.past k) (v'.past k) := by
  unfold V.past
  rw [hj]
  exact SxE.foldr hb _ (fun e' he' => V.sx_has (h.je e' (List.mem_of_mem_drop he')))
end Go.Proofs.YgvacwGreat
