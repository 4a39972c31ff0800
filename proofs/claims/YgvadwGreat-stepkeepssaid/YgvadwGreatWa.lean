import Derived.Test.YgvadwGreatVl
import Derived.Test.YgvadwGreatVj
namespace Go.Proofs.YgvadwGreat
set_option linter.unusedSimpArgs false
set_option linter.unusedVariables false
/-! the vault's invariant, plainly -/
def cntT (tab : Nat → Int) : Nat → Nat
  | 0 => 0
  | n + 1 => cntT tab n + (if 0 ≤ tab n then 1 else 0)
theorem cntT_congr {tab tab' : Nat → Int} : ∀ m, (∀ p, p < m → tab' p = tab p) → cntT tab' m = cntT tab m
  | 0, _ => rfl
  | m + 1, h => by
    unfold cntT
    rw [cntT_congr m (fun p hp => h p (by omega)), h m (by omega)]
theorem cntT_le (tab : Nat → Int) : ∀ m, cntT tab m ≤ m
  | 0 => Nat.le_refl _
  | m + 1 => by
    unfold cntT
    have := cntT_le tab m
    split <;> omega
theorem cntT_put {tab : Nat → Int} {q : Nat} {x : Int} (ht : tab q < 0) (hx : 0 ≤ x) : ∀ m, q < m → cntT (fun i => if i = q then x else tab i) m = cntT tab m + 1
  | 0, h => absurd h (by omega)
  | m + 1, h => by
    unfold cntT
    by_cases hm : m = q
    · subst hm
      rw [cntT_congr (tab := tab) m (fun p hp => by simp only [if_neg (show p ≠ m by omega)])]
      simp only [if_true]
      rw [if_pos hx, if_neg (by omega)]
    · rw [cntT_put ht hx m (by omega)]
      simp only [if_neg hm]
      omega
theorem cntT_lt (tab : Nat → Int) : ∀ m, cntT tab m < m → ∃ p, p < m ∧ tab p < 0
  | 0, h => absurd h (by omega)
  | m + 1, h => by
    unfold cntT at h
    by_cases hm : 0 ≤ tab m
    · rw [if_pos hm] at h
      obtain ⟨p, hp, h1⟩ := cntT_lt tab m (by omega)
      exact ⟨p, by omega, h1⟩
    · exact ⟨m, by omega, by omega⟩
structure TabOK (tab : Nat → Int) (m n : Nat) : Prop where
  rng : ∀ p, p < m → tab p = -1 ∨ (0 ≤ tab p ∧ tab p < n)
  inj : ∀ p q, p < m → q < m → 0 ≤ tab p → tab p = tab q → p = q
  cnt : cntT tab m = n
theorem TabOK.push {tab : Nat → Int} {m n q : Nat} (h : TabOK tab m n) (hq : q < m) (ht : tab q < 0) : TabOK (fun i => if i = q then (n : Int) else tab i) m (n + 1) where
  rng := fun p hp => by
    show (if p = q then (n : Int) else tab p) = -1 ∨ (0 ≤ (if p = q then (n : Int) else tab p) ∧ (if p = q then (n : Int) else tab p) < ((n + 1 : Nat) : Int))
    split
    · exact Or.inr ⟨by omega, by omega⟩
    · rcases h.rng p hp with h1 | h1
      · exact Or.inl h1
      · exact Or.inr ⟨h1.1, by omega⟩
  inj := fun p p' hp hp' h0 he => by
    replace h0 : 0 ≤ (if p = q then (n : Int) else tab p) := h0
    replace he : (if p = q then (n : Int) else tab p) = (if p' = q then (n : Int) else tab p') := he
    split at h0
    · rename_i e1
      rw [if_pos e1] at he
      split at he
      · rename_i e2; rw [e1, e2]
      · have := h.rng p' hp'; omega
    · rename_i e1
      rw [if_neg e1] at he
      split at he
      · have := h.rng p hp; omega
      · exact h.inj p p' hp hp' h0 he
  cnt := by rw [cntT_put ht (by omega) m hq, h.cnt]

theorem probe_old {tab : Nat → Int} {hit hit' : Int → Bool} {m q : Nat} {x : Int} (hm : 0 < m) (ht : tab q < 0) (hh : ∀ p, p < m → 0 ≤ tab p → hit' (tab p) = hit (tab p)) :
    ∀ f p, p < m → 0 ≤ (probeY tab hit m f p).1 → probeY (fun i => if i = q then x else tab i) hit' m f p = probeY tab hit m f p
  | 0, p, hp, h => by simp [probeY] at h
  | f + 1, p, hp, h => by
    have hlt : (p + 1) % m < m := Nat.mod_lt _ hm
    unfold probeY at h ⊢
    by_cases h0 : tab p < 0
    · rw [if_pos h0] at h; simp at h
    · have hpq : p ≠ q := fun e => h0 (e ▸ ht)
      simp only [if_neg hpq]
      rw [if_neg h0] at h ⊢
      rw [if_neg h0, hh p hp (by omega)]
      by_cases h1 : hit (tab p) = true
      · rw [if_pos h1, if_pos h1]
      · rw [if_neg h1] at h ⊢
        rw [if_neg h1]
        exact probe_old hm ht hh f _ hlt h
theorem probe_new {tab : Nat → Int} {hit hit' : Int → Bool} {m q : Nat} {x : Int} (hm : 0 < m) (ht : tab q < 0) (hx : 0 ≤ x) (hn : hit' x = true) (hh : ∀ p, p < m → 0 ≤ tab p → hit' (tab p) = hit (tab p)) :
    ∀ f p, p < m → (probeY tab hit m f p).1 < 0 → (probeY tab hit m f p).2 = q → probeY (fun i => if i = q then x else tab i) hit' m f p = (x, -1)
  | 0, p, hp, h, h2 => by simp only [probeY] at h2; omega
  | f + 1, p, hp, h, h2 => by
    have hlt : (p + 1) % m < m := Nat.mod_lt _ hm
    unfold probeY at h h2 ⊢
    by_cases h0 : tab p < 0
    · rw [if_pos h0] at h2
      have hpq : p = q := by simp only at h2; omega
      simp only [if_pos hpq]
      rw [if_neg (by omega), if_pos hn]
    · have hpq : p ≠ q := fun e => h0 (e ▸ ht)
      simp only [if_neg hpq]
      rw [if_neg h0] at h h2
      rw [if_neg h0, hh p hp (by omega)]
      by_cases h1 : hit (tab p) = true
      · rw [if_pos h1] at h; simp only at h; omega
      · rw [if_neg h1] at h h2
        rw [if_neg h1]
        exact probe_new hm ht hx hn hh f _ hlt h h2
theorem probe_place {tab : Nat → Int} {hit : Int → Bool} {m : Nat} (hm : 0 < m) :
    ∀ f p, p < m → 0 ≤ (probeY tab hit m f p).2 → tab (probeY tab hit m f p).2.toNat < 0 ∧ (probeY tab hit m f p).1 = -1
  | 0, p, hp, h => by simp [probeY] at h
  | f + 1, p, hp, h => by
    have hlt : (p + 1) % m < m := Nat.mod_lt _ hm
    unfold probeY at h ⊢
    by_cases h0 : tab p < 0
    · rw [if_pos h0]; exact ⟨h0, rfl⟩
    · rw [if_neg h0] at h ⊢
      by_cases h1 : hit (tab p) = true
      · rw [if_pos h1] at h; simp at h
      · rw [if_neg h1] at h ⊢
        exact probe_place hm f _ hlt h
theorem probe_full {tab : Nat → Int} {hit : Int → Bool} {m : Nat} (hm : 0 < m) :
    ∀ f p, p < m → (probeY tab hit m f p).1 < 0 → (probeY tab hit m f p).2 < 0 → ∀ j, j < f → 0 ≤ tab ((p + j) % m)
  | 0, p, hp, h, h2, j, hj => absurd hj (by omega)
  | f + 1, p, hp, h, h2, j, hj => by
    have hlt : (p + 1) % m < m := Nat.mod_lt _ hm
    unfold probeY at h h2
    by_cases h0 : tab p < 0
    · rw [if_pos h0] at h2; simp only at h2; omega
    · rw [if_neg h0] at h h2
      by_cases h1 : hit (tab p) = true
      · rw [if_pos h1] at h; simp only at h; omega
      · rw [if_neg h1] at h h2
        cases j with
        | zero => rw [Nat.add_zero, Nat.mod_eq_of_lt hp]; omega
        | succ j =>
          have := probe_full hm f _ hlt h h2 j (by omega)
          rwa [Nat.mod_add_mod, Nat.add_assoc, Nat.add_comm 1 j] at this
/-- A probeY of a table with an empty place finds its key or a place. -/
theorem probe_ends {tab : Nat → Int} {hit : Int → Bool} {m : Nat} (hm : 0 < m) {p : Nat} (hp : p < m) (hc : cntT tab m < m) (h1 : (probeY tab hit m m p).1 < 0) : 0 ≤ (probeY tab hit m m p).2 := by
  rcases Int.lt_or_le (probeY tab hit m m p).2 0 with h | h
  · obtain ⟨r, hr, h0⟩ := cntT_lt tab m hc
    have := probe_full hm m p hp h1 h ((r + m - p) % m) (Nat.mod_lt _ hm)
    rw [Nat.add_mod_mod, show p + (r + m - p) = r + m by omega, Nat.add_mod_right, Nat.mod_eq_of_lt hr] at this
    omega
  · exact h
theorem probe_congr {tab tab' : Nat → Int} {hit hit' : Int → Bool} {m : Nat} (ht : ∀ p, tab' p = tab p) (hh : ∀ i, hit' i = hit i) : ∀ f p, probeY tab' hit' m f p = probeY tab hit m f p
  | 0, p => rfl
  | f + 1, p => by unfold probeY; rw [ht, hh, probe_congr ht hh f]

def CodeOK (s : SV) : Prop := s.2.1 ≤ 256 ∧ (0 < s.2.1 ∨ s.1 = none)
def eSize (na ns nt : Nat) (k : Int) : Nat := if k = 0 ∨ k = 1 ∨ k = 2 ∨ k = 4 ∨ k = 9 ∨ k = 10 then na else if k = 8 then nt else if k = 3 ∨ k = 5 then ns else 1
structure EntryOK (na ns nt : Nat) (e : Entry) : Prop where
  k : 0 ≤ e.kind ∧ e.kind ≤ 10
  a : 0 ≤ e.at_ ∧ e.at_ < eSize na ns nt e.kind
  n : e.n ≠ 0 → e.kind = 1 ∨ e.kind = 6
  r : e.kind = 6 → 0 ≤ e.n ∧ e.n ≤ 209715200
  w : e.w ≠ [0, 0, 0, 0] → e.kind = 0 ∨ e.kind = 3 ∨ e.kind = 8
  b : e.b.1 ≠ none → e.kind = 2
  c : CodeOK e.b
  f : e.flag = true → e.kind = 4 ∨ e.kind = 5 ∨ e.kind = 9 ∨ e.kind = 10
theorem eSize_mono {na ns nt na' ns' nt' : Nat} (ha : na ≤ na') (hs : ns ≤ ns') (ht : nt ≤ nt') (k : Int) : eSize na ns nt k ≤ eSize na' ns' nt' k := by
  unfold eSize; split; exact ha; split; exact ht; split; exact hs; exact Nat.le_refl _
theorem EntryOK.mono {na ns nt na' ns' nt' : Nat} {e : Entry} (h : EntryOK na ns nt e) (ha : na ≤ na') (hs : ns ≤ ns') (ht : nt ≤ nt') : EntryOK na' ns' nt' e :=
  { h with a := ⟨h.a.1, by have := eSize_mono ha hs ht e.kind; have := h.a.2; omega⟩ }
def nLog (l : List Entry) : Nat := l.countP (fun e => decide (e.kind = 7))
structure VInv (v : V) : Prop where
  nm : 0 ≤ v.nmarks ∧ v.nmarks ≤ 16384
  rf : 0 ≤ v.ref ∧ v.ref ≤ 209715200
  la : v.accts.length ≤ 2560
  ls : v.slots.length ≤ 2560
  lj : v.journal.length ≤ 65536
  lt : v.temps.length ≤ 12288
  sl : ∀ x ∈ v.slots, 0 ≤ x.acct ∧ x.acct < v.accts.length
  tl : ∀ x ∈ v.temps, 0 ≤ x.acct ∧ x.acct < v.accts.length
  cd : ∀ x ∈ v.accts, CodeOK x.code
  ta : TabOK v.atab 4096 v.accts.length
  ts : TabOK v.stab 4096 v.slots.length
  fa : ∀ (i : Nat) x, v.accts[i]? = some x → (v.findA x.addr).1 = i
  fs : ∀ (i : Nat) x, v.slots[i]? = some x → (v.findS x.acct x.key).1 = i
  tt : (v.ttab.length = 16384 ∧ TabOK v.tt 16384 v.temps.length) ∨ (v.ttab = [] ∧ v.temps = [])
  ft : ∀ (i : Nat) x, v.temps[i]? = some x → (v.findT x.acct x.key).1 = i
  m0 : ∀ i : Nat, (i : Int) < v.nmarks → 0 ≤ v.marks i ∧ v.marks i ≤ v.journal.length
  mm : ∀ i j : Nat, i ≤ j → (j : Int) < v.nmarks → v.marks i ≤ v.marks j
  je : ∀ e ∈ v.journal, EntryOK v.accts.length v.slots.length v.temps.length e
  lg : nLog v.journal = v.logs.length
  ld : ∀ x ∈ v.logs, x.topics.2.1 ≤ 4 ∧ x.data.2.1 ≤ 717280

theorem hitA_append {l : List Acct} {A : List Int} {i : Int} {y : Acct} (h0 : 0 ≤ i) (hi : i < l.length) : hitA (l ++ [y]) A i = hitA l A i := by
  unfold hitA; rw [List.getElem?_append_left (by omega)]
theorem hitA_last {l : List Acct} {A : List Int} {y : Acct} (h : y.addr = A) : hitA (l ++ [y]) A l.length = true := by
  unfold hitA; simp [h]
theorem hitS_append {l : List Slot} {a : Int} {K : List Int} {i : Int} {y : Slot} (h0 : 0 ≤ i) (hi : i < l.length) : hitS (l ++ [y]) a K i = hitS l a K i := by
  unfold hitS; rw [List.getElem?_append_left (by omega)]
theorem hitS_last {l : List Slot} {a : Int} {K : List Int} {y : Slot} (h : y.acct = a ∧ y.key = K) : hitS (l ++ [y]) a K l.length = true := by
  unfold hitS; simp [h]
theorem hitT_append {l : List Temp} {a : Int} {K : List Int} {i : Int} {y : Temp} (h0 : 0 ≤ i) (hi : i < l.length) : hitT (l ++ [y]) a K i = hitT l a K i := by
  unfold hitT; rw [List.getElem?_append_left (by omega)]
theorem hitT_last {l : List Temp} {a : Int} {K : List Int} {y : Temp} (h : y.acct = a ∧ y.key = K) : hitT (l ++ [y]) a K l.length = true := by
  unfold hitT; simp [h]
theorem hitA_set {l : List Acct} {i : Nat} {x x' : Acct} (hx : l[i]? = some x) (ha : x'.addr = x.addr) (A : List Int) (j : Int) : hitA (l.set i x') A j = hitA l A j := by
  unfold hitA
  by_cases h : i = j.toNat
  · subst h; rw [List.getElem?_set_self (lt_of_getElem? hx), hx]; simp only [ha]
  · rw [List.getElem?_set_ne h]
theorem hitS_set {l : List Slot} {i : Nat} {x x' : Slot} (hx : l[i]? = some x) (ha : x'.acct = x.acct ∧ x'.key = x.key) (a : Int) (K : List Int) (j : Int) : hitS (l.set i x') a K j = hitS l a K j := by
  unfold hitS
  by_cases h : i = j.toNat
  · subst h; rw [List.getElem?_set_self (lt_of_getElem? hx), hx]; simp only [ha.1, ha.2]
  · rw [List.getElem?_set_ne h]
theorem hitT_set {l : List Temp} {i : Nat} {x x' : Temp} (hx : l[i]? = some x) (ha : x'.acct = x.acct ∧ x'.key = x.key) (a : Int) (K : List Int) (j : Int) : hitT (l.set i x') a K j = hitT l a K j := by
  unfold hitT
  by_cases h : i = j.toNat
  · subst h; rw [List.getElem?_set_self (lt_of_getElem? hx), hx]; simp only [ha.1, ha.2]
  · rw [List.getElem?_set_ne h]
theorem getElem?_push {α : Type} {l : List α} {x y : α} {i : Nat} (h : (l ++ [y])[i]? = some x) : l[i]? = some x ∨ (i = l.length ∧ x = y) := by
  rcases Nat.lt_trichotomy i l.length with h1 | h1 | h1
  · rw [List.getElem?_append_left h1] at h; exact Or.inl h
  · subst h1; simp at h; exact Or.inr ⟨rfl, h.symm⟩
  · rw [List.getElem?_eq_none (by simp; omega)] at h; cases h
theorem getElem?_setD {α : Type} {l : List α} {x y z : α} {i j : Nat} (hz : l[i]? = some z) (h : (l.set i y)[j]? = some x) : (j ≠ i ∧ l[j]? = some x) ∨ (j = i ∧ x = y) := by
  by_cases e : j = i
  · subst e; rw [List.getElem?_set_self (lt_of_getElem? hz)] at h; exact Or.inr ⟨rfl, (Option.some.inj h).symm⟩
  · rw [List.getElem?_set_ne (fun e' => e e'.symm)] at h; exact Or.inl ⟨e, h⟩
end Go.Proofs.YgvadwGreat
