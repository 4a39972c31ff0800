
import Derived.Test.YgvacwGreatWb
import Derived.Test.YgvacwGreatUa
namespace Go.Proofs.YgvacwGreat
set_option linter.unusedSimpArgs false
set_option linter.unusedVariables false
/-! weights: balances, values and the refund counter, now and at every live snapshot -/
structure Sc where
  bals : List (List Int)
  vals : List (List Int)
  ref : Int
def V.sc (v : V) : Sc := ⟨v.accts.map (·.bal), v.slots.map (·.val), v.ref⟩
def Sc.back (e : Entry) (s : Sc) : Sc :=
  if e.kind = 0 then { s with bals := s.bals.set e.at_.toNat e.w } else if e.kind = 3 then { s with vals := s.vals.set e.at_.toNat e.w } else if e.kind = 6 then { s with ref := e.n } else s
def V.scAt (v : V) (k : Nat) : Sc := (v.journal.drop k).foldr Sc.back v.sc
def V.origs (v : V) : List (List Int) := v.slots.map (·.orig)
def sumW : List (List Int) → Int
  | [] => 0
  | x :: l => wv x + sumW l
def cleared : List (List Int) → List (List Int) → Int
  | x :: l, o :: os => (if x = [0, 0, 0, 0] ∧ o ≠ [0, 0, 0, 0] then 1 else 0) + cleared l os
  | _, _ => 0
structure ScX (s s' : Sc) (a b : Nat) : Prop where
  bals : s'.bals = s.bals ++ List.replicate a [0, 0, 0, 0]
  vals : s'.vals = s.vals ++ List.replicate b [0, 0, 0, 0]
  ref : s'.ref = s.ref
theorem ScX.refl (s : Sc) : ScX s s 0 0 := ⟨by simp, by simp, rfl⟩
structure WOK (o : List (List Int)) (S sp : Int) (s : Sc) : Prop where
  sum : sumW s.bals = S
  clr : 4800 * cleared s.vals o ≤ s.ref
  gas : s.ref ≤ 199 * sp
theorem sumW_append : ∀ l m, sumW (l ++ m) = sumW l + sumW m
  | [], m => by simp [sumW]
  | x :: l, m => by simp [sumW, sumW_append l m, Int.add_assoc]
theorem sumW_zero : ∀ n, sumW (List.replicate n [0, 0, 0, 0]) = 0
  | 0 => rfl
  | n + 1 => by rw [List.replicate_succ, sumW, sumW_zero n]; decide
theorem sumW_set : ∀ (l : List (List Int)) (i : Nat) (x y : List Int), l[i]? = some x → sumW (l.set i y) + wv x = sumW l + wv y
  | [], i, x, y, h => by simp at h
  | z :: l, 0, x, y, h => by simp at h; subst h; simp [sumW]; omega
  | z :: l, i + 1, x, y, h => by
    have := sumW_set l i x y (by simpa using h)
    simp [sumW]; omega
theorem cleared_append : ∀ (l m o p : List (List Int)), l.length = o.length → cleared (l ++ m) (o ++ p) = cleared l o + cleared m p
  | [], m, [], p, _ => by simp [cleared]
  | x :: l, m, y :: o, p, h => by
    have := cleared_append l m o p (by simpa using h)
    simp [cleared, this, Int.add_assoc]
  | [], _, _ :: _, _, h => by simp at h
  | _ :: _, _, [], _, h => by simp at h
theorem cleared_zero : ∀ n, cleared (List.replicate n [0, 0, 0, 0]) (List.replicate n [0, 0, 0, 0]) = 0
  | 0 => rfl
  | n + 1 => by rw [List.replicate_succ, cleared, cleared_zero n]; simp
theorem cleared_set : ∀ (l o : List (List Int)) (i : Nat) (x y z : List Int), l[i]? = some x → o[i]? = some z →
    cleared (l.set i y) o + (if x = [0, 0, 0, 0] ∧ z ≠ [0, 0, 0, 0] then 1 else 0) = cleared l o + (if y = [0, 0, 0, 0] ∧ z ≠ [0, 0, 0, 0] then 1 else 0)
  | [], o, i, x, y, z, h, _ => by simp at h
  | _ :: _, [], i, x, y, z, _, h => by simp at h
  | a :: l, b :: o, 0, x, y, z, h, h' => by
    simp at h h'; subst h; subst h'
    simp only [List.set_cons_zero, cleared]; omega
  | a :: l, b :: o, i + 1, x, y, z, h, h' => by
    have := cleared_set l o i x y z (by simpa using h) (by simpa using h')
    simp only [List.set_cons_succ, cleared]; omega
theorem cleared_nonneg : ∀ l o, 0 ≤ cleared l o
  | [], _ => by simp [cleared]
  | _ :: _, [] => by simp [cleared]
  | x :: l, o :: os => by have := cleared_nonneg l os; unfold cleared; split <;> omega
theorem WOK.ext {o : List (List Int)} {S sp : Int} {s s' : Sc} {a b : Nat} (h : WOK o S sp s) (hx : ScX s s' a b) (hl : s.vals.length = o.length) : WOK (o ++ List.replicate b [0, 0, 0, 0]) S sp s' where
  sum := by rw [hx.bals, sumW_append, sumW_zero, h.sum]; omega
  clr := by rw [hx.vals, cleared_append _ _ _ _ hl, cleared_zero, hx.ref]; have := h.clr; omega
  gas := by rw [hx.ref]; exact h.gas
theorem WOK.mono {o : List (List Int)} {S sp sp' : Int} {s : Sc} (h : WOK o S sp s) (hs : sp ≤ sp') : WOK o S sp' s := { h with gas := by have := h.gas; omega }
/-- an entry that lies within the scale -/
def Sc.has (s : Sc) (e : Entry) : Prop := (e.kind = 0 → e.at_.toNat < s.bals.length) ∧ (e.kind = 3 → e.at_.toNat < s.vals.length)
theorem back_len (e : Entry) (s : Sc) : (Sc.back e s).bals.length = s.bals.length ∧ (Sc.back e s).vals.length = s.vals.length := by
  unfold Sc.back
  split
  · simp
  · split
    · simp
    · split <;> simp
theorem ScX.back {s s' : Sc} {a b : Nat} (h : ScX s s' a b) {e : Entry} (he : s.has e) : ScX (Sc.back e s) (Sc.back e s') a b := by
  unfold Sc.back
  split
  · rename_i h0
    exact ⟨by simp only [h.bals]; rw [List.set_append_left _ _ (he.1 h0)], h.vals, h.ref⟩
  · split
    · rename_i h0 h3
      exact ⟨h.bals, by simp only [h.vals]; rw [List.set_append_left _ _ (he.2 h3)], h.ref⟩
    · split
      · exact ⟨h.bals, h.vals, rfl⟩
      · exact h
theorem foldr_len : ∀ (l : List Entry) (s : Sc), (l.foldr Sc.back s).bals.length = s.bals.length ∧ (l.foldr Sc.back s).vals.length = s.vals.length
  | [], s => ⟨rfl, rfl⟩
  | e :: l, s => by
    have h1 := foldr_len l s
    have h2 := back_len e (l.foldr Sc.back s)
    exact ⟨h2.1.trans h1.1, h2.2.trans h1.2⟩
theorem ScX.foldr {s s' : Sc} {a b : Nat} (h : ScX s s' a b) : ∀ (l : List Entry), (∀ e ∈ l, s.has e) → ScX (l.foldr Sc.back s) (l.foldr Sc.back s') a b
  | [], _ => h
  | e :: l, hl => by
    have h1 := ScX.foldr h l (fun e he => hl e (List.mem_cons_of_mem _ he))
    have h2 := hl e (List.mem_cons_self ..)
    have h3 := foldr_len l s
    exact h1.back ⟨fun h0 => by rw [h3.1]; exact h2.1 h0, fun h0 => by rw [h3.2]; exact h2.2 h0⟩
theorem V.sc_has {v : V} {e : Entry} (h : EntryOK v.accts.length v.slots.length v.temps.length e) : v.sc.has e := by
  have h1 := h.a
  unfold eSize at h1
  constructor
  · intro h0; rw [if_pos (by omega)] at h1; simp only [V.sc, List.length_map]; omega
  · intro h0; rw [if_neg (by omega), if_neg (by omega), if_pos (by omega)] at h1; simp only [V.sc, List.length_map]; omega
theorem scAt_push {v v' : V} (h : VInv v) {e : Entry} {a b : Nat} (hj : v'.journal = v.journal ++ [e]) (hb : ScX v.sc (Sc.back e v'.sc) a b) {k : Nat} (hk : k ≤ v.journal.length) : ScX (v.scAt k) (v'.scAt k) a b := by
  unfold V.scAt
  rw [hj, List.drop_append_of_le_length hk, List.foldr_append]
  exact hb.foldr _ (fun e he => V.sc_has (h.je e (List.mem_of_mem_drop he)))
theorem scAt_grow {v v' : V} (h : VInv v) {a b : Nat} (hj : v'.journal = v.journal) (hb : ScX v.sc v'.sc a b) (k : Nat) : ScX (v.scAt k) (v'.scAt k) a b := by
  unfold V.scAt
  rw [hj]
  exact hb.foldr _ (fun e he => V.sc_has (h.je e (List.mem_of_mem_drop he)))
theorem scAt_len (v : V) (k : Nat) : (v.scAt k).vals.length = v.origs.length := by
  unfold V.scAt; rw [(foldr_len _ _).2]; simp [V.sc, V.origs]
theorem scAt_end (v : V) : v.scAt v.journal.length = v.sc := by unfold V.scAt; rw [List.drop_length]; rfl
structure WPast (v : V) (S sp : Int) : Prop where
  at_ : ∀ i : Nat, (i : Int) < v.nmarks → WOK v.origs S sp (v.scAt (v.marks i).toNat)
abbrev WNow (v : V) (S sp : Int) : Prop := WOK v.origs S sp v.sc
theorem WPast.mono {v : V} {S sp sp' : Int} (h : WPast v S sp) (hs : sp ≤ sp') : WPast v S sp' := ⟨fun i hi => (h.at_ i hi).mono hs⟩
theorem WPast.push {v v' : V} {S sp : Int} (hw : WPast v S sp) (h : VInv v) {e : Entry} {a b : Nat} (hj : v'.journal = v.journal ++ [e]) (hb : ScX v.sc (Sc.back e v'.sc) a b) (ho : v'.origs = v.origs ++ List.replicate b [0, 0, 0, 0]) (hm : v'.nmarks = v.nmarks) (hmm : v'.marks = v.marks) : WPast v' S sp :=
  ⟨fun i hi => by
    rw [hm] at hi
    have := h.m0 i hi
    rw [hmm, ho]
    exact (hw.at_ i hi).ext (scAt_push h hj hb (by omega)) (scAt_len v _)⟩
/-! undoing -/
theorem set_same {α : Type} {l : List α} {i : Nat} {x : α} (h : l[i]? = some x) : l.set i x = l := by
  refine List.ext_getElem? fun j => ?_
  by_cases e : i = j
  · subst e; rw [List.getElem?_set_self (lt_of_getElem? h), h]
  · rw [List.getElem?_set_ne e]
theorem undo_sc {v u : V} {e : Entry} (h : v.undo e = some u) (h0 : 0 ≤ e.at_) : u.sc = Sc.back e v.sc ∧ u.origs = v.origs := by
  unfold V.undo at h
  split at h
  · rename_i hA
    rw [if_neg (by omega), Option.map_eq_some_iff] at h
    obtain ⟨x, hx, rfl⟩ := h
    refine ⟨?_, rfl⟩
    unfold Sc.back
    rw [if_neg (by omega : ¬ e.kind = 3), if_neg (by omega : ¬ e.kind = 6)]
    by_cases hk : e.kind = 0
    · rw [if_pos hk]; simp [V.sc, List.map_set, undoA, hk]
    · rw [if_neg hk]
      have e1 : (undoA e x).bal = x.bal := by unfold undoA; rw [if_neg hk]; repeat (first | rfl | split)
      simp only [V.sc, List.map_set, e1]
      rw [set_same (by simp [hx])]
  · rename_i hA
    split at h
    · rename_i hS
      rw [if_neg (by omega), Option.map_eq_some_iff] at h
      obtain ⟨x, hx, rfl⟩ := h
      have ho : (undoS e x).orig = x.orig := by unfold undoS; split <;> rfl
      refine ⟨?_, ?_⟩
      · unfold Sc.back
        rw [if_neg (by omega : ¬ e.kind = 0), if_neg (by omega : ¬ e.kind = 6)]
        by_cases hk : e.kind = 3
        · rw [if_pos hk]; simp [V.sc, List.map_set, undoS, hk]
        · rw [if_neg hk]
          have e1 : (undoS e x).val = x.val := by unfold undoS; rw [if_neg hk]
          simp only [V.sc, List.map_set, e1]
          rw [set_same (by simp [hx])]
      · simp only [V.origs, List.map_set, ho]
        rw [set_same (by simp [hx])]
    · rename_i hS
      unfold Sc.back
      rw [if_neg (by omega : ¬ e.kind = 0), if_neg (by omega : ¬ e.kind = 3)]
      split at h
      · rename_i h8
        rw [if_neg (by omega), Option.map_eq_some_iff] at h
        obtain ⟨x, hx, rfl⟩ := h
        rw [if_neg (by omega)]
        exact ⟨rfl, rfl⟩
      · split at h
        · rename_i h6
          injection h with h; subst h
          rw [if_pos h6]; exact ⟨rfl, rfl⟩
        · rename_i h6
          rw [if_neg h6]
          split at h
          · split at h
            · cases h
            · injection h with h; subst h; exact ⟨rfl, rfl⟩
          · cases h
end Go.Proofs.YgvacwGreat
