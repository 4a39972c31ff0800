import Derived.Test.YgvadwGreatWa
namespace Go.Proofs.YgvadwGreat
set_option linter.unusedSimpArgs false
set_option linter.unusedVariables false
/-! the vault's steps keep the invariant -/
theorem home_lt (A : List Int) : (home A).toNat < 4096 := (Int.toNat_lt (home_bd A).1).2 (home_bd A).2
theorem homeS_lt (a : Int) (K : List Int) : (homeS a K).toNat < 4096 := (Int.toNat_lt (homeS_bd a K).1).2 (homeS_bd a K).2
theorem VInv.updA {v : V} (h : VInv v) {i : Nat} {x x' : Acct} (hx : v.accts[i]? = some x) (ha : x'.addr = x.addr) (hc : CodeOK x'.code) : VInv { v with accts := v.accts.set i x' } where
  nm := h.nm
  rf := h.rf
  la := by show (v.accts.set i x').length ≤ _; rw [List.length_set]; exact h.la
  ls := h.ls
  lj := h.lj
  lt := h.lt
  sl := fun y hy => by show _ ∧ _ < ((v.accts.set i x').length : Int); rw [List.length_set]; exact h.sl y hy
  tl := fun y hy => by show _ ∧ _ < ((v.accts.set i x').length : Int); rw [List.length_set]; exact h.tl y hy
  cd := fun y hy => by
    rcases List.mem_or_eq_of_mem_set hy with hy | hy
    · exact h.cd y hy
    · subst hy; exact hc
  ta := by show TabOK v.atab 4096 (v.accts.set i x').length; rw [List.length_set]; exact h.ta
  ts := h.ts
  fa := fun j y hy => by
    show (probeY v.atab (hitA (v.accts.set i x') y.addr) 4096 4096 _).1 = _
    rw [probe_congr (fun _ => rfl) (hitA_set hx ha _)]
    rcases getElem?_setD hx hy with ⟨_, hy⟩ | ⟨rfl, rfl⟩
    · exact h.fa j y hy
    · rw [ha]; exact h.fa j x hx
  fs := h.fs
  tt := h.tt
  ft := h.ft
  m0 := h.m0
  mm := h.mm
  je := fun e he => by show EntryOK (v.accts.set i x').length _ _ _; rw [List.length_set]; exact h.je e he
  lg := h.lg
  ld := h.ld
theorem VInv.updS {v : V} (h : VInv v) {i : Nat} {x x' : Slot} (hx : v.slots[i]? = some x) (ha : x'.acct = x.acct ∧ x'.key = x.key) : VInv { v with slots := v.slots.set i x' } where
  nm := h.nm
  rf := h.rf
  la := h.la
  ls := by show (v.slots.set i x').length ≤ _; rw [List.length_set]; exact h.ls
  lj := h.lj
  lt := h.lt
  sl := fun y hy => by
    rcases List.mem_or_eq_of_mem_set hy with hy | hy
    · exact h.sl y hy
    · subst hy; rw [ha.1]; exact h.sl x (List.mem_of_getElem? hx)
  tl := h.tl
  cd := h.cd
  ta := h.ta
  ts := by show TabOK v.stab 4096 (v.slots.set i x').length; rw [List.length_set]; exact h.ts
  fa := h.fa
  fs := fun j y hy => by
    show (probeY v.stab (hitS (v.slots.set i x') y.acct y.key) 4096 4096 _).1 = _
    rw [probe_congr (fun _ => rfl) (hitS_set hx ha _ _)]
    rcases getElem?_setD hx hy with ⟨_, hy⟩ | ⟨rfl, rfl⟩
    · exact h.fs j y hy
    · rw [ha.1, ha.2]; exact h.fs j x hx
  tt := h.tt
  ft := h.ft
  m0 := h.m0
  mm := h.mm
  je := fun e he => by show EntryOK _ (v.slots.set i x').length _ _; rw [List.length_set]; exact h.je e he
  lg := h.lg
  ld := h.ld
theorem VInv.updT {v : V} (h : VInv v) {i : Nat} {x x' : Temp} (hx : v.temps[i]? = some x) (ha : x'.acct = x.acct ∧ x'.key = x.key) : VInv { v with temps := v.temps.set i x' } where
  nm := h.nm
  rf := h.rf
  la := h.la
  ls := h.ls
  lj := h.lj
  lt := by show (v.temps.set i x').length ≤ _; rw [List.length_set]; exact h.lt
  sl := h.sl
  tl := fun y hy => by
    rcases List.mem_or_eq_of_mem_set hy with hy | hy
    · exact h.tl y hy
    · subst hy; rw [ha.1]; exact h.tl x (List.mem_of_getElem? hx)
  cd := h.cd
  ta := h.ta
  ts := h.ts
  fa := h.fa
  fs := h.fs
  tt := by
    rcases h.tt with ⟨h1, h2⟩ | ⟨h1, h2⟩
    · exact Or.inl ⟨h1, by show TabOK v.tt 16384 (v.temps.set i x').length; rw [List.length_set]; exact h2⟩
    · rw [h2] at hx; simp at hx
  ft := fun j y hy => by
    have e : ∀ a K, ({ v with temps := v.temps.set i x' } : V).findT a K = v.findT a K := fun a K => by
      show (if v.ttab.length = 16384 then probeY v.tt (hitT (v.temps.set i x') a K) 16384 16384 _ else _) = _
      rw [probe_congr (fun _ => rfl) (hitT_set hx ha _ _)]; rfl
    rw [e]
    rcases getElem?_setD hx hy with ⟨_, hy⟩ | ⟨rfl, rfl⟩
    · exact h.ft j y hy
    · rw [ha.1, ha.2]; exact h.ft j x hx
  m0 := h.m0
  mm := h.mm
  je := fun e he => by show EntryOK _ _ (v.temps.set i x').length _; rw [List.length_set]; exact h.je e he
  lg := h.lg
  ld := h.ld
theorem nLog_push (l : List Entry) (e : Entry) : nLog (l ++ [e]) = nLog l + if e.kind = 7 then 1 else 0 := by
  unfold nLog; rw [List.countP_append, List.countP_singleton]; simp
theorem VInv.push {v : V} (h : VInv v) {e : Entry} (he : EntryOK v.accts.length v.slots.length v.temps.length e) (hk : e.kind ≠ 7) (hj : v.journal.length < 65536) : VInv { v with journal := v.journal ++ [e] } :=
  { h with
    lj := by show (v.journal ++ [e]).length ≤ _; simp; omega
    m0 := fun i hi => by have := h.m0 i hi; show _ ∧ _ ≤ ((v.journal ++ [e]).length : Int); simp; omega
    je := fun y hy => by
      rcases List.mem_append.1 hy with hy | hy
      · exact h.je y hy
      · rw [List.mem_singleton.1 hy]; exact he
    lg := by show nLog (v.journal ++ [e]) = _; rw [nLog_push, if_neg hk]; exact h.lg }
theorem VInv.setRef {v : V} (h : VInv v) {n : Int} (hn : 0 ≤ n ∧ n ≤ 209715200) : VInv { v with ref := n } := { h with rf := hn }
theorem VInv.pushLog {v : V} (h : VInv v) {x : LogR} {e : Entry} (he : EntryOK v.accts.length v.slots.length v.temps.length e) (hk : e.kind = 7) (hj : v.journal.length < 65536) (hx : x.topics.2.1 ≤ 4 ∧ x.data.2.1 ≤ 717280) : VInv { v with journal := v.journal ++ [e], logs := v.logs ++ [x] } :=
  { h with
    lj := by show (v.journal ++ [e]).length ≤ _; simp; omega
    m0 := fun i hi => by have := h.m0 i hi; show _ ∧ _ ≤ ((v.journal ++ [e]).length : Int); simp; omega
    je := fun y hy => by
      rcases List.mem_append.1 hy with hy | hy
      · exact h.je y hy
      · rw [List.mem_singleton.1 hy]; exact he
    lg := by show nLog (v.journal ++ [e]) = (v.logs ++ [x]).length; rw [nLog_push, if_pos hk, h.lg]; simp
    ld := fun y hy => by
      rcases List.mem_append.1 hy with hy | hy
      · exact h.ld y hy
      · rw [List.mem_singleton.1 hy]; exact hx }
theorem VInv.addA {v : V} (h : VInv v) {A : List Int} (h1 : (v.findA A).1 < 0) (hl : v.accts.length < 2560) :
    0 ≤ (v.findA A).2 ∧ VInv { v with accts := v.accts ++ [newA A], atab := fun i => if i = (v.findA A).2.toNat then (v.accts.length : Int) else v.atab i } := by
  have hp := home_lt A
  have h2 : 0 ≤ (v.findA A).2 := probe_ends (by decide) hp (by rw [h.ta.cnt]; omega) h1
  have hr := findA_range v A
  have hq : (v.findA A).2.toNat < 4096 := by omega
  have hpl : v.atab (v.findA A).2.toNat < 0 := (probe_place (by decide) 4096 _ hp h2).1
  have hhit : ∀ X p, p < 4096 → 0 ≤ v.atab p → hitA (v.accts ++ [newA A]) X (v.atab p) = hitA v.accts X (v.atab p) := fun X p hp h0 => by
    have := h.ta.rng p hp
    exact hitA_append h0 (by omega)
  refine ⟨h2, { h with la := ?_, sl := ?_, tl := ?_, cd := ?_, ta := ?_, fa := ?_, je := ?_ }⟩
  · show (v.accts ++ [newA A]).length ≤ _; simp; omega
  · intro x hx; have := h.sl x hx; show _ ∧ _ < ((v.accts ++ [newA A]).length : Int); simp; omega
  · intro x hx; have := h.tl x hx; show _ ∧ _ < ((v.accts ++ [newA A]).length : Int); simp; omega
  · intro x hx
    rcases List.mem_append.1 hx with hx | hx
    · exact h.cd x hx
    · rw [List.mem_singleton.1 hx]; exact ⟨by simp [newA], Or.inr rfl⟩
  · show TabOK _ 4096 (v.accts ++ [newA A]).length
    rw [List.length_append]
    exact h.ta.push hq hpl
  · intro i x hx
    have hpx := home_lt x.addr
    show (probeY _ (hitA (v.accts ++ [newA A]) x.addr) 4096 4096 _).1 = _
    rcases getElem?_push hx with hx | ⟨rfl, rfl⟩
    · have hf := h.fa i x hx
      have h0 : 0 ≤ (probeY v.atab (hitA v.accts x.addr) 4096 4096 (home x.addr).toNat).1 := by have : (v.findA x.addr).1 = _ := hf; unfold V.findA at this; omega
      rw [probe_old (by decide) hpl (hhit x.addr) 4096 _ hpx h0]
      exact hf
    · rw [probe_new (hit := hitA v.accts A) (by decide) hpl (by omega) (hitA_last rfl) (hhit _) 4096 _ hpx h1 (Int.toNat_of_nonneg h2).symm]
  · intro e he
    show EntryOK (v.accts ++ [newA A]).length _ _ e
    exact (h.je e he).mono (by simp) (Nat.le_refl _) (Nat.le_refl _)
theorem VInv.addS {v : V} (h : VInv v) {a : Int} {K : List Int} (ha : 0 ≤ a ∧ a < v.accts.length) (h1 : (v.findS a K).1 < 0) (hl : v.slots.length < 2560) :
    0 ≤ (v.findS a K).2 ∧ VInv { v with slots := v.slots ++ [newS a K], stab := fun i => if i = (v.findS a K).2.toNat then (v.slots.length : Int) else v.stab i } := by
  have hp := homeS_lt a K
  have h2 : 0 ≤ (v.findS a K).2 := probe_ends (by decide) hp (by rw [h.ts.cnt]; omega) h1
  have hr := findS_range v a K
  have hq : (v.findS a K).2.toNat < 4096 := by omega
  have hpl : v.stab (v.findS a K).2.toNat < 0 := (probe_place (by decide) 4096 _ hp h2).1
  have hhit : ∀ x X p, p < 4096 → 0 ≤ v.stab p → hitS (v.slots ++ [newS a K]) x X (v.stab p) = hitS v.slots x X (v.stab p) := fun x X p hp h0 => by
    have := h.ts.rng p hp
    exact hitS_append h0 (by omega)
  refine ⟨h2, { h with ls := ?_, sl := ?_, ts := ?_, fs := ?_, je := ?_ }⟩
  · show (v.slots ++ [newS a K]).length ≤ _; simp; omega
  · intro x hx
    rcases List.mem_append.1 hx with hx | hx
    · exact h.sl x hx
    · rw [List.mem_singleton.1 hx]; exact ha
  · show TabOK _ 4096 (v.slots ++ [newS a K]).length
    rw [List.length_append]
    exact h.ts.push hq hpl
  · intro i x hx
    have hpx := homeS_lt x.acct x.key
    show (probeY _ (hitS (v.slots ++ [newS a K]) x.acct x.key) 4096 4096 _).1 = _
    rcases getElem?_push hx with hx | ⟨rfl, rfl⟩
    · have hf := h.fs i x hx
      have h0 : 0 ≤ (probeY v.stab (hitS v.slots x.acct x.key) 4096 4096 (homeS x.acct x.key).toNat).1 := by have : (v.findS x.acct x.key).1 = _ := hf; unfold V.findS at this; omega
      rw [probe_old (by decide) hpl (hhit x.acct x.key) 4096 _ hpx h0]
      exact hf
    · rw [probe_new (hit := hitS v.slots a K) (by decide) hpl (by omega) (hitS_last ⟨rfl, rfl⟩) (hhit _ _) 4096 _ hpx h1 (Int.toNat_of_nonneg h2).symm]
  · intro e he
    show EntryOK _ (v.slots ++ [newS a K]).length _ e
    exact (h.je e he).mono (Nat.le_refl _) (by simp) (Nat.le_refl _)
theorem tt_set {v : V} {q : Nat} {x : Int} (hq : q < v.ttab.length) : ∀ p, ({ v with ttab := v.ttab.set q x } : V).tt p = if p = q then x else v.tt p := by
  intro p
  show (v.ttab.set q x).getD p (-1) = _
  rw [List.getD_eq_getElem?_getD]
  by_cases h : p = q
  · subst h; rw [List.getElem?_set_self hq, if_pos rfl]; rfl
  · rw [List.getElem?_set_ne (fun e => h e.symm), if_neg h, ← List.getD_eq_getElem?_getD]; rfl
theorem mod_lt16 (x : Int) : (x % 16384).toNat < 16384 := by omega
theorem mixS_mod (a : Int) (K : List Int) : (mixS a K % 16384).toNat < 16384 := mod_lt16 _
theorem VInv.addT {v : V} (h : VInv v) {a : Int} {K : List Int} (ha : 0 ≤ a ∧ a < v.accts.length) (h16 : v.ttab.length = 16384) (h1 : (v.findT a K).1 < 0) (hl : v.temps.length < 12288) :
    0 ≤ (v.findT a K).2 ∧ VInv { v with temps := v.temps ++ [newT a K], ttab := v.ttab.set (v.findT a K).2.toNat v.temps.length } := by
  have hp := mixS_mod a K
  have ht : TabOK v.tt 16384 v.temps.length := by
    rcases h.tt with ⟨_, h2⟩ | ⟨h2, _⟩
    · exact h2
    · rw [h2] at h16; cases h16
  have hfe : v.findT a K = probeY v.tt (hitT v.temps a K) 16384 16384 (mixS a K % 16384).toNat := by unfold V.findT; rw [if_pos h16]
  have h2 : 0 ≤ (v.findT a K).2 := by rw [hfe] at h1 ⊢; exact probe_ends (by decide) hp (by rw [ht.cnt]; omega) h1
  have hr := findT_range v a K
  have hq : (v.findT a K).2.toNat < 16384 := by omega
  have hpl : v.tt (v.findT a K).2.toNat < 0 := by have := (probe_place (tab := v.tt) (hit := hitT v.temps a K) (by decide) 16384 _ hp (by rw [← hfe]; exact h2)).1; rwa [← hfe] at this
  have hhit : ∀ x X p, p < 16384 → 0 ≤ v.tt p → hitT (v.temps ++ [newT a K]) x X (v.tt p) = hitT v.temps x X (v.tt p) := fun x X p hp h0 => by
    have := ht.rng p hp
    exact hitT_append h0 (by omega)
  have htt : ({ v with temps := v.temps ++ [newT a K], ttab := v.ttab.set (v.findT a K).2.toNat v.temps.length } : V).tt = fun p => if p = (v.findT a K).2.toNat then (v.temps.length : Int) else v.tt p := by
    funext p; exact tt_set (by omega) p
  have hfe' : ∀ x X, ({ v with temps := v.temps ++ [newT a K], ttab := v.ttab.set (v.findT a K).2.toNat v.temps.length } : V).findT x X = probeY (fun p => if p = (v.findT a K).2.toNat then (v.temps.length : Int) else v.tt p) (hitT (v.temps ++ [newT a K]) x X) 16384 16384 (mixS x X % 16384).toNat := fun x X => by
    show (if (v.ttab.set (v.findT a K).2.toNat v.temps.length).length = 16384 then probeY ({ v with temps := v.temps ++ [newT a K], ttab := v.ttab.set (v.findT a K).2.toNat v.temps.length } : V).tt (hitT (v.temps ++ [newT a K]) x X) 16384 16384 (mixS x X % 16384).toNat else (-1, -1)) = _
    rw [if_pos (by simpa using h16), htt]
  refine ⟨h2, { h with lt := ?_, tl := ?_, tt := ?_, ft := ?_, je := ?_ }⟩
  · show (v.temps ++ [newT a K]).length ≤ _; simp; omega
  · intro x hx
    rcases List.mem_append.1 hx with hx | hx
    · exact h.tl x hx
    · rw [List.mem_singleton.1 hx]; exact ha
  · refine Or.inl ⟨by simpa using h16, ?_⟩
    rw [htt]
    show TabOK _ 16384 (v.temps ++ [newT a K]).length
    rw [List.length_append]
    exact ht.push hq hpl
  · intro i x hx
    rw [hfe']
    have hpx := mixS_mod x.acct x.key
    rcases getElem?_push hx with hx | ⟨rfl, rfl⟩
    · have hf := h.ft i x hx
      have hfx : v.findT x.acct x.key = probeY v.tt (hitT v.temps x.acct x.key) 16384 16384 (mixS x.acct x.key % 16384).toNat := by unfold V.findT; rw [if_pos h16]
      rw [hfx] at hf
      rw [probe_old (by decide) hpl (hhit x.acct x.key) 16384 _ hpx (by omega)]
      exact hf
    · rw [probe_new (hit := hitT v.temps a K) (by decide) hpl (by omega) (hitT_last ⟨rfl, rfl⟩) (hhit _ _) 16384 _ hpx (by rw [hfe] at h1; exact h1) (by have := (Int.toNat_of_nonneg h2).symm; rw [hfe] at this ⊢; exact this)]
  · intro e he
    show EntryOK _ _ (v.temps ++ [newT a K]).length e
    exact (h.je e he).mono (Nat.le_refl _) (Nat.le_refl _) (by simp)
theorem cntT_neg {tab : Nat → Int} (h : ∀ p, tab p < 0) : ∀ m, cntT tab m = 0
  | 0 => rfl
  | m + 1 => by unfold cntT; rw [cntT_neg h m, if_neg (by have := h m; omega)]
theorem VInv.withTT {v : V} (h : VInv v) : VInv v.withTT ∧ v.withTT.ttab.length = 16384 := by
  unfold V.withTT
  split
  · rename_i h16; exact ⟨h, h16⟩
  · rename_i h16
    rcases h.tt with ⟨h1, _⟩ | ⟨h1, h2⟩
    · exact absurd h1 h16
    · have htt : ∀ p, ({ v with ttab := List.replicate 16384 (-1) } : V).tt p = -1 := fun p => by
        show (List.replicate 16384 (-1 : Int)).getD p (-1) = -1
        rw [List.getD_eq_getElem?_getD, List.getElem?_replicate]; split <;> rfl
      refine ⟨{ h with tt := Or.inl ⟨List.length_replicate .., ?_⟩, ft := ?_ }, List.length_replicate ..⟩
      · refine ⟨fun p _ => Or.inl (htt p), fun p q _ _ h0 _ => ?_, ?_⟩
        · rw [htt] at h0; omega
        · rw [cntT_neg (fun p => by rw [htt]; omega), h2]; rfl
      · intro i x hx
        have hx : v.temps[i]? = some x := hx
        rw [h2] at hx; simp at hx
/-- taking back one step of the journal -/
theorem VInv.undo {v : V} (h : VInv v) {e : Entry} (he : v.journal[v.journal.length - 1]? = some e) (hm : ∀ i : Nat, (i : Int) < v.nmarks → v.marks i ≤ v.journal.length - 1) :
    ∃ u, v.undo e = some u ∧ VInv { u with journal := v.journal.take (v.journal.length - 1) } := by
  have hj0 := lt_of_getElem? he
  have heo := h.je e (List.mem_of_getElem? he)
  have hsplit : v.journal = v.journal.take (v.journal.length - 1) ++ [e] := by
    conv => lhs; rw [← List.take_append_drop (v.journal.length - 1) v.journal]
    congr 1
    refine List.ext_getElem? fun i => ?_
    rw [List.getElem?_drop]
    cases i with
    | zero => rw [Nat.add_zero, he]; rfl
    | succ i => rw [List.getElem?_eq_none (by omega)]; simp
  have hcut : ∀ u : V, VInv u → u.journal = v.journal → u.nmarks = v.nmarks → u.marks = v.marks → u.logs = v.logs → e.kind ≠ 7 → VInv { u with journal := v.journal.take (v.journal.length - 1) } := fun u hu h1 h2 h3 h4 h5 =>
    { hu with
      lj := by show (v.journal.take (v.journal.length - 1)).length ≤ _; rw [List.length_take]; have := h.lj; omega
      m0 := fun i hi => by have := hm i (h2 ▸ hi); have := h.m0 i (h2 ▸ hi); show 0 ≤ u.marks i ∧ u.marks i ≤ ((v.journal.take (v.journal.length - 1)).length : Int); rw [List.length_take, h3]; omega
      je := fun y hy => hu.je y (by rw [h1]; exact List.mem_of_mem_take hy)
      lg := by
        have := h.lg
        rw [hsplit, nLog_push, if_neg h5] at this
        show nLog (v.journal.take (v.journal.length - 1)) = u.logs.length
        rw [h4]; exact this }
  have ha := heo.a
  have hk := heo.k
  by_cases hA : e.isA
  · have hA' : e.kind = 0 ∨ e.kind = 1 ∨ e.kind = 2 ∨ e.kind = 4 ∨ e.kind = 9 ∨ e.kind = 10 := hA
    rw [eSize, if_pos hA'] at ha
    obtain ⟨x, hx⟩ : ∃ x, v.accts[e.at_.toNat]? = some x := ⟨_, List.getElem?_eq_getElem (by omega)⟩
    refine ⟨_, by rw [V.undo, if_pos hA, if_neg (by omega), hx]; rfl, ?_⟩
    refine hcut _ (h.updA hx (by unfold undoA; repeat (first | rfl | split)) ?_) rfl rfl rfl rfl (by omega)
    have := h.cd x (List.mem_of_getElem? hx)
    have := heo.c
    unfold undoA
    repeat (first | assumption | split)
  · have hA' : ¬ (e.kind = 0 ∨ e.kind = 1 ∨ e.kind = 2 ∨ e.kind = 4 ∨ e.kind = 9 ∨ e.kind = 10) := hA
    rw [eSize, if_neg hA'] at ha
    by_cases hS : e.isS
    · have hS' : e.kind = 3 ∨ e.kind = 5 := hS
      rw [if_neg (by omega), if_pos hS'] at ha
      obtain ⟨x, hx⟩ : ∃ x, v.slots[e.at_.toNat]? = some x := ⟨_, List.getElem?_eq_getElem (by omega)⟩
      refine ⟨_, by rw [V.undo, if_neg hA, if_pos hS, if_neg (by omega), hx]; rfl, ?_⟩
      exact hcut _ (h.updS hx (by unfold undoS; split <;> exact ⟨rfl, rfl⟩)) rfl rfl rfl rfl (by omega)
    · have hS' : ¬ (e.kind = 3 ∨ e.kind = 5) := hS
      by_cases h8 : e.kind = 8
      · rw [if_pos h8] at ha
        obtain ⟨x, hx⟩ : ∃ x, v.temps[e.at_.toNat]? = some x := ⟨_, List.getElem?_eq_getElem (by omega)⟩
        refine ⟨_, undo_8 h8 ha.1 hx, ?_⟩
        exact hcut _ (h.updT hx ⟨rfl, rfl⟩) rfl rfl rfl rfl (by omega)
      · by_cases h6 : e.kind = 6
        · exact ⟨_, undo_6 h6, hcut _ (h.setRef (heo.r h6)) rfl rfl rfl rfl (by omega)⟩
        · have h7 : e.kind = 7 := by omega
          have hlg := h.lg
          rw [hsplit, nLog_push, if_pos h7] at hlg
          refine ⟨_, undo_7 h7 (by omega), ?_⟩
          exact { h with
            lj := by show (v.journal.take (v.journal.length - 1)).length ≤ _; rw [List.length_take]; have := h.lj; omega
            m0 := fun i hi => by have := hm i hi; have := h.m0 i hi; show 0 ≤ v.marks i ∧ v.marks i ≤ ((v.journal.take (v.journal.length - 1)).length : Int); rw [List.length_take]; omega
            je := fun y hy => h.je y (List.mem_of_mem_take hy)
            lg := by show nLog (v.journal.take (v.journal.length - 1)) = (v.logs.take (v.logs.length - 1)).length; rw [List.length_take]; omega
            ld := fun y hy => h.ld y (List.mem_of_mem_take hy) }
end Go.Proofs.YgvadwGreat
