import Derived.Test.YgvadwGreatWc
namespace Go.Proofs.YgvadwGreat
set_option linter.unusedSimpArgs false
set_option linter.unusedVariables false
/-! what a journalled step of the vault does, plainly -/
def V.entered (v : V) (A : List Int) : Prop := ∃ x ∈ v.accts, x.addr = A
structure VGo (v v' : V) (dj da ds dl dt : Nat) : Prop where
  inv : VInv v'
  j : v'.journal.length ≤ v.journal.length + dj
  a : v'.accts.length ≤ v.accts.length + da
  s : v'.slots.length ≤ v.slots.length + ds
  l : v'.logs.length ≤ v.logs.length + dl
  t : v'.temps.length ≤ v.temps.length + dt
  nm : v'.nmarks = v.nmarks
  mrk : v'.marks = v.marks
  past : ∀ S sp, WPast v S sp → WPast v' S sp
  ent : ∀ A, v.entered A → v'.entered A
theorem VGo.refl {v : V} (h : VInv v) : VGo v v 0 0 0 0 0 := ⟨h, by omega, by omega, by omega, by omega, by omega, rfl, rfl, fun _ _ h => h, fun _ h => h⟩
theorem VGo.trans {v v1 v2 : V} {dj da ds dl dt dj' da' ds' dl' dt' : Nat} (h : VGo v v1 dj da ds dl dt) (h' : VGo v1 v2 dj' da' ds' dl' dt') : VGo v v2 (dj + dj') (da + da') (ds + ds') (dl + dl') (dt + dt') :=
  ⟨h'.inv, by have := h.j; have := h'.j; omega, by have := h.a; have := h'.a; omega, by have := h.s; have := h'.s; omega, by have := h.l; have := h'.l; omega, by have := h.t; have := h'.t; omega, h'.nm.trans h.nm, h'.mrk.trans h.mrk, fun S sp hp => h'.past S sp (h.past S sp hp), fun A hA => h'.ent A (h.ent A hA)⟩
theorem VGo.weak {v v' : V} {dj da ds dl dt dj' da' ds' dl' dt' : Nat} (h : VGo v v' dj da ds dl dt) (h1 : dj ≤ dj') (h2 : da ≤ da') (h3 : ds ≤ ds') (h4 : dl ≤ dl') (h5 : dt ≤ dt') : VGo v v' dj' da' ds' dl' dt' :=
  { h with j := by have := h.j; omega, a := by have := h.a; omega, s := by have := h.s; omega, l := by have := h.l; omega, t := by have := h.t; omega }
theorem get_iff {v : V} (h : VInv v) {A : List Int} {x : Acct} : v.get A = some x ↔ ∃ i : Nat, v.accts[i]? = some x ∧ x.addr = A := by
  constructor
  · intro hg
    unfold V.get at hg
    split at hg
    · rename_i h0
      obtain ⟨y, hy, hya⟩ := findA_some h0
      rw [hy] at hg
      injection hg with hg
      subst hg
      exact ⟨_, hy, hya⟩
    · cases hg
  · rintro ⟨i, hi, rfl⟩
    have hf := h.fa i x hi
    unfold V.get
    rw [if_pos (by omega), hf, Int.toNat_natCast, hi]
theorem get_none_iff {v : V} (h : VInv v) {A : List Int} : v.get A = none ↔ ¬ v.entered A := by
  constructor
  · rintro hg ⟨x, hx, hxa⟩
    obtain ⟨i, hi⟩ := List.getElem?_of_mem hx
    rw [(get_iff h).2 ⟨i, hi, hxa⟩] at hg
    cases hg
  · intro hn
    cases hg : v.get A with
    | none => rfl
    | some x =>
      obtain ⟨i, hi, hxa⟩ := (get_iff h).1 hg
      exact absurd ⟨x, List.mem_of_getElem? hi, hxa⟩ hn
theorem found_iff {v : V} (h : VInv v) {A : List Int} : 0 ≤ (v.findA A).1 ↔ v.entered A := by
  constructor
  · intro h0; obtain ⟨x, hx, hxa⟩ := findA_some h0; exact ⟨x, List.mem_of_getElem? hx, hxa⟩
  · rintro ⟨x, hx, rfl⟩
    obtain ⟨i, hi⟩ := List.getElem?_of_mem hx
    rw [h.fa i x hi]; omega
/-- the account as it would be read -/
def V.acY (v : V) (A : List Int) : Acct := (v.get A).getD (newA A)
theorem ac_bal {v : V} {A : List Int} : (v.acY A).bal = v.bal A := by unfold V.acY V.bal; cases v.get A <;> rfl
theorem ac_warm {v : V} {A : List Int} : (v.acY A).warm = v.isWarmA A := by unfold V.acY V.isWarmA; cases v.get A <;> rfl
theorem ac_addr {v : V} (h : VInv v) {A : List Int} : (v.acY A).addr = A := by
  unfold V.acY
  cases hg : v.get A with
  | none => rfl
  | some x => obtain ⟨i, hi, hxa⟩ := (get_iff h).1 hg; exact hxa
theorem ac_code {v : V} (h : VInv v) {A : List Int} : CodeOK (v.acY A).code := by
  unfold V.acY
  cases hg : v.get A with
  | none => exact ⟨by simp [newA], Or.inr rfl⟩
  | some x => obtain ⟨i, hi, hxa⟩ := (get_iff h).1 hg; exact h.cd x (List.mem_of_getElem? hi)
structure AcctGo (v : V) (A : List Int) (i a : Nat) (v' : V) (r : Int × Bool) : Prop where
  ok : r = ((i : Int), true)
  inv : VInv v'
  at_ : v'.accts[i]? = some (v.acY A)
  acc : v'.accts = v.accts ++ List.replicate a (newA A)
  a1 : a ≤ 1
  a0 : v.entered A → a = 0
  oth : v' = { v with accts := v'.accts, atab := v'.atab }
theorem acct_go {v : V} (h : VInv v) {A : List Int} (hr : v.entered A ∨ v.accts.length < 2560) : ∃ i a, AcctGo v A i a (v.acct A).2 (v.acct A).1 := by
  by_cases h0 : 0 ≤ (v.findA A).1
  · obtain ⟨x, hx, hxa⟩ := findA_some h0
    refine ⟨(v.findA A).1.toNat, 0, ?_⟩
    have e : v.acct A = (((v.findA A).1, true), v) := by unfold V.acct; rw [if_pos h0]
    rw [e]
    refine ⟨by simp only [Prod.mk.injEq, and_true]; omega, h, ?_, by simp, by omega, fun _ => rfl, rfl⟩
    rw [hx]; unfold V.acY; rw [(get_iff h).2 ⟨_, hx, hxa⟩]; rfl
  · have hne : ¬ v.entered A := fun e => h0 ((found_iff h).2 e)
    have hl := hr.resolve_left hne
    have h1 : (v.findA A).1 < 0 := by omega
    obtain ⟨h2, h3⟩ := h.addA h1 hl
    have e : v.acct A = (((v.accts.length : Int), true), { v with accts := v.accts ++ [newA A], atab := fun i => if i = (v.findA A).2.toNat then (v.accts.length : Int) else v.atab i }) := by
      unfold V.acct; rw [if_neg h0, if_neg (by omega)]
    rw [e]
    refine ⟨v.accts.length, 1, rfl, h3, ?_, rfl, by omega, fun e => absurd e hne, rfl⟩
    show (v.accts ++ [newA A])[v.accts.length]? = _
    unfold V.acY; rw [(get_none_iff h).2 hne]; simp
theorem map_rep {α β : Type} (f : α → β) (n : Nat) (x : α) : (List.replicate n x).map f = List.replicate n (f x) := by simp
theorem AcctGo.sc {v : V} {A : List Int} {i a : Nat} {v' : V} {r : Int × Bool} (h : AcctGo v A i a v' r) : ScX v.sc v'.sc a 0 ∧ v'.origs = v.origs := by
  have ho := h.oth
  refine ⟨⟨?_, ?_, ?_⟩, ?_⟩
  · show v'.accts.map _ = v.accts.map _ ++ _; rw [h.acc, List.map_append, map_rep]; rfl
  · show v'.slots.map _ = v.slots.map _ ++ _; rw [ho]; simp
  · show v'.ref = v.ref; rw [ho]
  · show v'.slots.map _ = v.slots.map _; rw [ho]
/-- setting a field of an account -/
structure SetA (v : V) (A : List Int) (g : Acct → Acct) (a : Nat) (v' : V) : Prop where
  go : VGo v v' 1 a 0 0 0
  a1 : a ≤ 1
  a0 : v.entered A → a = 0
  ent : v'.entered A
  here : v'.acY A = g (v.acY A)
  there : ∀ X, X ≠ A → v'.acY X = v.acY X
  orig : v'.origs = v.origs
  ref : v'.ref = v.ref
  vals : v'.sc.vals = v.sc.vals
  sum : sumW v'.sc.bals + wv (v.bal A) = sumW v.sc.bals + wv (g (v.acY A)).bal
  slots : v'.slots = v.slots
  temps : v'.temps = v.temps
  logs : v'.logs = v.logs
  nj : v'.journal.length = v.journal.length + 1
theorem setA_go {v : V} (h : VInv v) {A : List Int} {e : Int → Acct → Entry} {g : Acct → Acct} (hr : v.entered A ∨ v.accts.length < 2560) (hj : v.journal.length < 65536)
    (hg : ∀ x, (g x).addr = x.addr) (hc : CodeOK (g (v.acY A)).code) (he : ∀ i n : Nat, i < n → EntryOK n v.slots.length v.temps.length (e i (v.acY A)))
    (hk : (e 0 (v.acY A)).kind ≠ 7) (hki : ∀ i, (e i (v.acY A)).kind = (e 0 (v.acY A)).kind) (hat : ∀ i : Nat, (e i (v.acY A)).at_ = i)
    (hb : ((e 0 (v.acY A)).kind = 0 ∧ ∀ i, (e i (v.acY A)).w = (v.acY A).bal) ∨ ((e 0 (v.acY A)).kind ≠ 0 ∧ (e 0 (v.acY A)).kind ≠ 3 ∧ (e 0 (v.acY A)).kind ≠ 6 ∧ (g (v.acY A)).bal = (v.acY A).bal)) :
    (v.setA A e g).1 = true ∧ ∃ a, SetA v A g a (v.setA A e g).2 := by
  obtain ⟨i, a, hA⟩ := acct_go h hr
  obtain ⟨hsc, hor⟩ := hA.sc
  have hok := hA.ok
  generalize hac : v.acct A = acY at hA hsc hor hok
  obtain ⟨r, v1⟩ := acY
  simp only at hA hsc hor hok
  subst hok
  have hvi := hA.oth
  have hi := lt_of_getElem? hA.at_
  have hai := hA.at_
  generalize hx : v.acY A = x at *
  have hxa : x.addr = A := by rw [← hx]; exact ac_addr h
  have heq : v.setA A e g = (true, { v1 with journal := v1.journal ++ [e i x], accts := v1.accts.set i (g x) }) := by
    unfold V.setA
    rw [if_neg (by omega), hac]
    simp only [if_true, Int.toNat_natCast]
    rw [hai]
  rw [heq]
  have hj1 : v1.journal = v.journal := by rw [hvi]
  have hs1 : v1.slots = v.slots := by rw [hvi]
  have ht1 : v1.temps = v.temps := by rw [hvi]
  have hl1 : v1.logs = v.logs := by rw [hvi]
  have hinv1 : VInv { v1 with accts := v1.accts.set i (g x) } := hA.inv.updA hai (hg x) hc
  have hinv : VInv { v1 with journal := v1.journal ++ [e i x], accts := v1.accts.set i (g x) } :=
    hinv1.push (e := e i x) (by show EntryOK (v1.accts.set i (g x)).length v1.slots.length v1.temps.length _; rw [List.length_set, hs1, ht1]; exact he i _ hi) (by rw [hki]; exact hk) (by show v1.journal.length < _; rw [hj1]; exact hj)
  have hlen1 : v1.accts.length = v.accts.length + a := by rw [hA.acc]; simp
  have hback : ScX v.sc (Sc.back (e i x) ({ v1 with journal := v1.journal ++ [e i x], accts := v1.accts.set i (g x) } : V).sc) a 0 := by
    have hscb : Sc.back (e i x) ({ v1 with journal := v1.journal ++ [e i x], accts := v1.accts.set i (g x) } : V).sc = v1.sc := by
      unfold Sc.back
      rw [hki, hat]
      have hbi : (v1.accts.map (·.bal))[i]? = some x.bal := by simp [hai]
      rcases hb with ⟨h1, h2⟩ | ⟨h1, h2, h3, h4⟩
      · rw [if_pos h1, h2]
        simp only [V.sc, List.map_set, List.set_set, Int.toNat_natCast]
        rw [set_same hbi]
      · rw [if_neg h1, if_neg h2, if_neg h3]
        simp only [V.sc, List.map_set, h4]
        rw [set_same hbi]
    rw [hscb]; exact hsc
  have hnm : v1.nmarks = v.nmarks := by rw [hvi]
  have hmk : v1.marks = v.marks := by rw [hvi]
  have hmem : ∀ y, y ∈ v1.accts.set i (g x) ↔ (∃ k, k ≠ i ∧ v1.accts[k]? = some y) ∨ y = g x := fun y => by
    constructor
    · intro hy
      obtain ⟨k, hk⟩ := List.getElem?_of_mem hy
      rcases getElem?_setD hai hk with ⟨h1, h2⟩ | ⟨_, h2⟩
      · exact Or.inl ⟨k, h1, h2⟩
      · exact Or.inr h2
    · rintro (⟨k, h1, h2⟩ | rfl)
      · exact List.mem_of_getElem? (i := k) (by rw [List.getElem?_set_ne (fun e => h1 e.symm)]; exact h2)
      · exact List.mem_of_getElem? (i := i) (by rw [List.getElem?_set_self hi])
  have hentA : ({ v1 with journal := v1.journal ++ [e i x], accts := v1.accts.set i (g x) } : V).entered A := ⟨g x, (hmem _).2 (Or.inr rfl), by rw [hg, hxa]⟩
  refine ⟨rfl, a, ⟨?_, hA.a1, hA.a0, hentA, ?_, ?_, ?_, ?_, ?_, ?_, ?_, ?_, ?_, ?_⟩⟩
  · refine ⟨hinv, ?_, ?_, ?_, ?_, ?_, hnm, hmk, ?_, ?_⟩
    · show (v1.journal ++ [e i x]).length ≤ _; rw [hj1]; simp
    · show (v1.accts.set i (g x)).length ≤ _
      rw [List.length_set, hlen1]; omega
    · show v1.slots.length ≤ _; rw [hs1]; omega
    · show v1.logs.length ≤ _; rw [hl1]; omega
    · show v1.temps.length ≤ _; rw [ht1]; omega
    · intro S sp hp
      exact hp.push h (e := e i x) (by show v1.journal ++ [e i x] = _; rw [hj1]) hback (by show v1.origs = _; rw [hor]; simp) hnm hmk
    · rintro X ⟨y, hy, hyX⟩
      obtain ⟨k, hk⟩ := List.getElem?_of_mem hy
      have hk1 : v1.accts[k]? = some y := by rw [hA.acc, List.getElem?_append_left (lt_of_getElem? hk)]; exact hk
      by_cases hki' : k = i
      · subst hki'
        rw [hai] at hk1
        injection hk1 with hk1
        subst hk1
        exact ⟨g x, (hmem _).2 (Or.inr rfl), by rw [hg, hyX]⟩
      · exact ⟨y, (hmem _).2 (Or.inl ⟨k, hki', hk1⟩), hyX⟩
  · rw [hx]
    unfold V.acY
    rw [(get_iff hinv).2 ⟨i, by show (v1.accts.set i (g x))[i]? = _; rw [List.getElem?_set_self hi], by rw [hg, hxa]⟩]; rfl
  · intro X hX
    have e1 : ({ v1 with journal := v1.journal ++ [e i x], accts := v1.accts.set i (g x) } : V).get X = v.get X := by
      cases hgx : v.get X with
      | some y =>
        obtain ⟨k, hk, hkX⟩ := (get_iff h).1 hgx
        have hk1 : v1.accts[k]? = some y := by rw [hA.acc, List.getElem?_append_left (lt_of_getElem? hk)]; exact hk
        have hki' : k ≠ i := fun e => by subst e; rw [hai] at hk1; injection hk1 with hk1; subst hk1; exact hX (hkX.symm.trans hxa)
        exact (get_iff hinv).2 ⟨k, by show (v1.accts.set i (g x))[k]? = _; rw [List.getElem?_set_ne (fun e => hki' e.symm)]; exact hk1, hkX⟩
      | none =>
        refine (get_none_iff hinv).2 ?_
        rintro ⟨y, hy, hyX⟩
        rcases (hmem y).1 hy with ⟨k, hki', hk1⟩ | rfl
        · rw [hA.acc] at hk1
          have := (get_none_iff h).1 hgx
          rcases List.mem_append.1 (List.mem_of_getElem? hk1) with h1 | h1
          · exact this ⟨y, h1, hyX⟩
          · rw [(List.mem_replicate.1 h1).2] at hyX; exact hX hyX.symm
        · rw [hg, hxa] at hyX; exact hX hyX.symm
    unfold V.acY; rw [e1]
  · exact hor
  · show v1.ref = v.ref; rw [hvi]
  · show v1.slots.map _ = v.slots.map _; rw [hs1]
  · show sumW ((v1.accts.set i (g x)).map _) + wv (v.bal A) = sumW (v.accts.map _) + _
    rw [List.map_set]
    have := sumW_set (v1.accts.map (·.bal)) i x.bal (g x).bal (by simp [hai])
    have e2 : sumW (v1.accts.map (·.bal)) = sumW (v.accts.map (·.bal)) := by
      rw [hA.acc, List.map_append, map_rep, sumW_append]
      have := sumW_zero a
      show _ + sumW (List.replicate a [0, 0, 0, 0]) = _
      omega
    rw [← ac_bal, hx]
    omega
  · exact hs1
  · exact ht1
  · show v1.logs = v.logs; rw [hvi]
  · show (v1.journal ++ [e i x]).length = _; rw [hj1]; simp
end Go.Proofs.YgvadwGreat
