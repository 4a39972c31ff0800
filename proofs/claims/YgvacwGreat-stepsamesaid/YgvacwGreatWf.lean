
import Derived.Test.YgvacwGreatWe
namespace Go.Proofs.YgvacwGreat
set_option linter.unusedSimpArgs false
set_option linter.unusedVariables false
/-- a journalled step that leaves accounts and slots alone -/
structure SetO (v v' : V) (dl dt : Nat) : Prop where
  go : VGo v v' 1 0 0 dl dt
  accts : v'.accts = v.accts
  slots : v'.slots = v.slots
theorem quiet_go {v v' : V} (h : VInv v) (h' : VInv v') {e : Entry} {dl dt : Nat} (hj : v'.journal = v.journal ++ [e]) (ha : v'.accts = v.accts) (hs : v'.slots = v.slots) (hl : v'.logs.length ≤ v.logs.length + dl) (ht : v'.temps.length ≤ v.temps.length + dt)
    (hnm : v'.nmarks = v.nmarks) (hmk : v'.marks = v.marks) (hb : (Sc.back e v'.sc) = v.sc) : SetO v v' dl dt where
  go := ⟨h', by rw [hj]; simp, by rw [ha]; omega, by rw [hs]; omega, hl, ht, hnm, hmk, fun S sp hp => hp.push h hj (by rw [hb]; exact ScX.refl _) (by unfold V.origs; rw [hs]; simp) hnm hmk, fun A ⟨x, hx, hxA⟩ => ⟨x, by rw [ha]; exact hx, hxA⟩⟩
  accts := ha
  slots := hs
theorem refUp_go {v : V} (h : VInv v) {n : Int} (hn : 0 ≤ n) (hr : v.ref + n ≤ 209715200) (hj : v.journal.length < 65536) : (v.refUp n).1 = true ∧ SetO v (v.refUp n).2 0 0 ∧ (v.refUp n).2.ref = v.ref + n := by
  have := h.rf
  unfold V.refUp
  rw [if_neg (by omega)]
  refine ⟨rfl, quiet_go h (VInv.setRef (v := { v with journal := v.journal ++ [_] }) (h.push (eOK (by decide) ⟨by decide, by simp [eSize]⟩ (fun _ => Or.inr rfl) (fun _ => by omega) (fun e => absurd rfl e) (fun e => absurd rfl e) codeOK_nil (fun e => by cases e)) (by simp) hj) (n := v.ref + n) (by omega)) (e := ⟨6, 0, v.ref, [0, 0, 0, 0], (none, 0, 0), false⟩) rfl rfl rfl (Nat.le_refl _) (Nat.le_refl _) rfl rfl (by simp [Sc.back, V.sc]), rfl⟩
theorem refDown_go {v : V} (h : VInv v) {n : Int} (hn : 0 ≤ n) (hr : n ≤ v.ref) (hj : v.journal.length < 65536) : (v.refDown n).1 = true ∧ SetO v (v.refDown n).2 0 0 ∧ (v.refDown n).2.ref = v.ref - n := by
  have := h.rf
  unfold V.refDown
  rw [if_neg (by omega)]
  refine ⟨rfl, quiet_go h (VInv.setRef (v := { v with journal := v.journal ++ [_] }) (h.push (eOK (by decide) ⟨by decide, by simp [eSize]⟩ (fun _ => Or.inr rfl) (fun _ => by omega) (fun e => absurd rfl e) (fun e => absurd rfl e) codeOK_nil (fun e => by cases e)) (by simp) hj) (n := v.ref - n) (by omega)) (e := ⟨6, 0, v.ref, [0, 0, 0, 0], (none, 0, 0), false⟩) rfl rfl rfl (Nat.le_refl _) (Nat.le_refl _) rfl rfl (by simp [Sc.back, V.sc]), rfl⟩
theorem putLog_go {v : V} (h : VInv v) {x : LogR} (hx : x.topics.2.1 ≤ 4 ∧ x.data.2.1 ≤ 717280) (hl : v.logs.length < 2800) (hj : v.journal.length < 65536) : (v.putLog x).1 = true ∧ SetO v (v.putLog x).2 1 0 ∧ (v.putLog x).2.ref = v.ref := by
  unfold V.putLog
  rw [if_neg (by omega)]
  refine ⟨rfl, quiet_go h (h.pushLog (eOK (by decide) ⟨by decide, by simp [eSize]⟩ (fun e => absurd rfl e) (fun e => by cases e) (fun e => absurd rfl e) (fun e => absurd rfl e) codeOK_nil (fun e => by cases e)) rfl hj hx) rfl rfl rfl (by simp) (by simp) rfl rfl (by simp [Sc.back, V.sc]), rfl⟩
theorem tempNew_go {v : V} (h : VInv v) {a : Int} {K : List Int} (ha : 0 ≤ a ∧ a < v.accts.length) (h16 : v.ttab.length = 16384) (h1 : (v.findT a K).1 < 0) (hl : v.temps.length < 12288) :
    (v.tempNew a K).1 = ((v.temps.length : Int), true) ∧ VInv (v.tempNew a K).2 ∧ (v.tempNew a K).2.temps = v.temps ++ [newT a K] := by
  obtain ⟨h2, h3⟩ := h.addT ha h16 h1 hl
  unfold V.tempNew
  rw [if_neg (by omega)]
  exact ⟨rfl, h3, rfl⟩
theorem tempNew_oth (v : V) (a : Int) (K : List Int) : (v.tempNew a K).2 = { v with temps := (v.tempNew a K).2.temps, ttab := (v.tempNew a K).2.ttab } := by
  unfold V.tempNew; split <;> rfl
theorem withTT_oth (v : V) : v.withTT = { v with ttab := v.withTT.ttab } := by unfold V.withTT; split <;> rfl
theorem tstore_go {v : V} (h : VInv v) {A K n : List Int} (hA : v.entered A) (hl : v.temps.length < 12288) (hj : v.journal.length < 65536) : (v.tstore A K n).1 = true ∧ SetO v (v.tstore A K n).2 0 1 ∧ (v.tstore A K n).2.ref = v.ref := by
  have h0 := (found_iff h).2 hA
  have hac : v.acct A = (((v.findA A).1, true), v) := by unfold V.acct; rw [if_pos h0]
  obtain ⟨x0, hx0, _⟩ := findA_some h0
  have hlt := lt_of_getElem? hx0
  obtain ⟨i, v1, hto, hinv1, x, hx, hlen, ho⟩ : ∃ (i : Nat) (v1 : V), v.tempOf A K = (((i : Int), true), v1) ∧ VInv v1 ∧ ∃ x, v1.temps[i]? = some x ∧ v1.temps.length ≤ v.temps.length + 1 ∧ v1 = { v with temps := v1.temps, ttab := v1.ttab } := by
    unfold V.tempOf
    by_cases hp : 0 ≤ v.peekT A K
    · rw [if_pos hp]
      have hp' := hp
      unfold V.peekT at hp'
      rw [if_pos h0] at hp'
      have hr := (findT_range v (v.findA A).1 K).2.2.2.1 hp'
      have hh := hr.1
      unfold hitT at hh
      split at hh
      · rename_i y hy
        refine ⟨(v.peekT A K).toNat, v, by rw [Int.toNat_of_nonneg hp], h, y, ?_, by omega, rfl⟩
        unfold V.peekT; rw [if_pos h0]; exact hy
      · cases hh
    · rw [if_neg hp, if_neg (by omega), hac]
      simp only [if_true]
      obtain ⟨hw1, hw2⟩ := h.withTT
      have hwo := withTT_oth v
      have hwt : v.withTT.temps = v.temps := by rw [hwo]
      have hwa : v.withTT.accts = v.accts := by rw [hwo]
      have hn : (v.withTT.findT (v.findA A).1 K).1 < 0 := by
        rcases Int.lt_or_le (v.withTT.findT (v.findA A).1 K).1 0 with hc | hc
        · exact hc
        · exfalso
          have hh := ((findT_range v.withTT (v.findA A).1 K).2.2.2.1 hc).1
          unfold hitT at hh
          split at hh
          · rename_i y hy
            rw [hwt] at hy
            have h1 := h.ft _ y hy
            have h2 := of_decide_eq_true hh
            rw [h2.1, h2.2] at h1
            unfold V.peekT at hp
            rw [if_pos h0, h1] at hp
            omega
          · cases hh
      obtain ⟨e1, e2, e3⟩ := tempNew_go hw1 (a := (v.findA A).1) (K := K) ⟨h0, by rw [hwa]; omega⟩ hw2 hn (by rw [hwt]; exact hl)
      have e4 := tempNew_oth v.withTT (v.findA A).1 K
      refine ⟨v.temps.length, (v.withTT.tempNew (v.findA A).1 K).2, ?_, e2, newT (v.findA A).1 K, ?_, ?_, ?_⟩
      · rw [← hwt, ← e1]
      · rw [e3, hwt]; simp
      · rw [e3, hwt]; simp
      · have h5 : ∀ (u z : V), z = { v with ttab := z.ttab } → u = { z with temps := u.temps, ttab := u.ttab } → u = { v with temps := u.temps, ttab := u.ttab } := by
          intro u z hz hu
          rw [hz] at hu
          exact hu
        exact h5 _ _ hwo e4
  have hi := lt_of_getElem? hx
  have heq : v.tstore A K n = (true, { v1 with journal := v1.journal ++ [⟨8, i, 0, x.val, (none, 0, 0), false⟩], temps := v1.temps.set i { x with val := n } }) := by
    unfold V.tstore V.setT
    rw [if_neg (by omega), hto]
    simp only [if_true, Int.toNat_natCast]
    rw [hx]
  rw [heq]
  have hj1 : v1.journal = v.journal := by rw [ho]
  have hA1 : v1.accts = v.accts := by rw [ho]
  have hs1 : v1.slots = v.slots := by rw [ho]
  have hr1 : v1.ref = v.ref := by rw [ho]
  have hl1 : v1.logs = v.logs := by rw [ho]
  have hnm : v1.nmarks = v.nmarks := by rw [ho]
  have hmk : v1.marks = v.marks := by rw [ho]
  have hinv2 : VInv { v1 with temps := v1.temps.set i { x with val := n } } := hinv1.updT hx ⟨rfl, rfl⟩
  have hinv : VInv { v1 with journal := v1.journal ++ [⟨8, i, 0, x.val, (none, 0, 0), false⟩], temps := v1.temps.set i { x with val := n } } :=
    hinv2.push (e := ⟨8, i, 0, x.val, (none, 0, 0), false⟩) (eOK (by decide) ⟨by omega, by simp [eSize]; omega⟩ (fun e => absurd rfl e) (fun e => by cases e) (fun _ => Or.inr (Or.inr rfl)) (fun e => absurd rfl e) codeOK_nil (fun e => by cases e)) (by simp) (by show v1.journal.length < _; rw [hj1]; exact hj)
  refine ⟨rfl, quiet_go h hinv (e := ⟨8, i, 0, x.val, (none, 0, 0), false⟩) (by show v1.journal ++ _ = _; rw [hj1]) hA1 hs1 (by show v1.logs.length ≤ _; rw [hl1]; omega) (by show (v1.temps.set i _).length ≤ _; rw [List.length_set]; exact hlen) hnm hmk ?_, hr1⟩
  simp only [Sc.back, V.sc]
  rw [if_neg (by decide), if_neg (by decide), if_neg (by decide), hA1, hs1, hr1]
/-! snapshots -/
theorem snap_go {v : V} (h : VInv v) (hn : v.nmarks < 16384) : v.snap.1 = v.nmarks ∧ VInv v.snap.2 ∧ v.snap.2.nmarks = v.nmarks + 1 ∧ v.snap.2 = { v with marks := v.snap.2.marks, nmarks := v.snap.2.nmarks } ∧ (∀ S sp, WPast v S sp → WNow v S sp → WPast v.snap.2 S sp) := by
  have hnm := h.nm
  have e : v.snap = (v.nmarks, { v with marks := fun i => if i = v.nmarks.toNat then (v.journal.length : Int) else v.marks i, nmarks := v.nmarks + 1 }) := by unfold V.snap; rw [if_neg (by omega)]
  rw [e]
  refine ⟨rfl, { h with nm := ?_, m0 := ?_, mm := ?_ }, rfl, rfl, ?_⟩
  · show 0 ≤ v.nmarks + 1 ∧ v.nmarks + 1 ≤ 16384; omega
  · intro i hi
    have hi : (i : Int) < v.nmarks + 1 := hi
    show 0 ≤ (if i = v.nmarks.toNat then (v.journal.length : Int) else v.marks i) ∧ (if i = v.nmarks.toNat then (v.journal.length : Int) else v.marks i) ≤ v.journal.length
    split
    · omega
    · exact h.m0 i (by omega)
  · intro i j hij hj
    have hj : (j : Int) < v.nmarks + 1 := hj
    show (if i = v.nmarks.toNat then (v.journal.length : Int) else v.marks i) ≤ (if j = v.nmarks.toNat then (v.journal.length : Int) else v.marks j)
    split
    · rw [if_pos (by omega)]; omega
    · split
      · exact (h.m0 i (by omega)).2
      · exact h.mm i j hij (by omega)
  · intro S sp hp hw
    refine ⟨fun i hi => ?_⟩
    have hi : (i : Int) < v.nmarks + 1 := hi
    show WOK v.origs S sp (v.scAt (if i = v.nmarks.toNat then (v.journal.length : Int) else v.marks i).toNat)
    split
    · rw [Int.toNat_natCast, scAt_end]; exact hw
    · exact hp.at_ i (by omega)
/-! reverting -/
theorem undo_oth {v u : V} {e : Entry} (h : v.undo e = some u) (h0 : 0 ≤ e.at_) : u.accts.map (·.addr) = v.accts.map (·.addr) ∧ u.slots.length = v.slots.length ∧ u.temps.length = v.temps.length ∧ u.logs.length ≤ v.logs.length := by
  unfold V.undo at h
  split at h
  · rw [if_neg (by omega), Option.map_eq_some_iff] at h
    obtain ⟨x, hx, rfl⟩ := h
    refine ⟨?_, rfl, rfl, Nat.le_refl _⟩
    show (v.accts.set _ _).map _ = _
    rw [List.map_set]
    have e1 : (undoA e x).addr = x.addr := by unfold undoA; repeat (first | rfl | split)
    rw [e1, set_same (by simp [hx])]
  · split at h
    · rw [if_neg (by omega), Option.map_eq_some_iff] at h
      obtain ⟨x, hx, rfl⟩ := h
      exact ⟨rfl, by simp, rfl, Nat.le_refl _⟩
    · split at h
      · rw [if_neg (by omega), Option.map_eq_some_iff] at h
        obtain ⟨x, hx, rfl⟩ := h
        exact ⟨rfl, rfl, by simp, Nat.le_refl _⟩
      · split at h
        · injection h with h; subst h; exact ⟨rfl, rfl, rfl, Nat.le_refl _⟩
        · split at h
          · split at h
            · cases h
            · injection h with h; subst h; exact ⟨rfl, rfl, rfl, by simp⟩
          · cases h
structure Back (v u : V) (k : Nat) : Prop where
  inv : VInv u
  j : u.journal = v.journal.take k
  sc : ∀ i, i ≤ k → u.scAt i = v.scAt i
  orig : u.origs = v.origs
  adr : u.accts.map (·.addr) = v.accts.map (·.addr)
  s : u.slots.length = v.slots.length
  t : u.temps.length = v.temps.length
  l : u.logs.length ≤ v.logs.length
  nm : u.nmarks = v.nmarks
  mrk : u.marks = v.marks
theorem undoAll_go (k : Nat) : ∀ (f : Nat) (v : V), VInv v → 0 < v.nmarks → v.marks (v.nmarks - 1).toNat = k → v.journal.length ≤ k + f → Back v (V.undoAll f v) k
  | 0, v, h, h0, hk, hf => by
    have := h.m0 (v.nmarks - 1).toNat (by omega)
    have hl : v.journal.length = k := by omega
    exact ⟨h, by rw [← hl, List.take_length]; rfl, fun _ _ => rfl, rfl, rfl, rfl, rfl, Nat.le_refl _, rfl, rfl⟩
  | f + 1, v, h, h0, hk, hf => by
    have hm := h.m0 (v.nmarks - 1).toNat (by omega)
    have hnm := h.nm
    unfold V.undoAll
    by_cases hl : v.journal.length = k
    · have hc : ¬ v.canUndo := by
        intro hc
        apply hc
        refine Or.inr ⟨?_, by omega⟩
        unfold V.live; simp; omega
      have e : v.undoOne = none := by unfold V.undoOne; rw [if_neg hc]
      rw [e]
      exact ⟨h, by rw [← hl, List.take_length], fun _ _ => rfl, rfl, rfl, rfl, rfl, Nat.le_refl _, rfl, rfl⟩
    · have hlt : k < v.journal.length := by omega
      have hc : v.canUndo := by
        rintro (hc | ⟨_, hc⟩) <;> omega
      obtain ⟨e, he⟩ : ∃ e, v.journal[v.journal.length - 1]? = some e := ⟨_, List.getElem?_eq_getElem (by omega)⟩
      obtain ⟨u, hu, hui⟩ := h.undo he (fun i hi => by have := h.mm i (v.nmarks - 1).toNat (by omega) (by omega); omega)
      have h0e := (h.je e (List.mem_of_getElem? he)).a.1
      have hj := undo_journal hu
      have hsc := undo_sc hu h0e
      have hot := undo_oth hu h0e
      have e1 : v.undoOne = some { u with journal := v.journal.take (v.journal.length - 1) } := by
        unfold V.undoOne; rw [if_pos hc, he]; simp only [hu, Option.map_some, hj.1]
      rw [e1]
      simp only
      have ih := undoAll_go k f { u with journal := v.journal.take (v.journal.length - 1) } hui (by show 0 < u.nmarks; rw [hj.2.1]; exact h0) (by show u.marks (u.nmarks - 1).toNat = _; rw [hj.2.1, hj.2.2]; exact hk) (by show (v.journal.take (v.journal.length - 1)).length ≤ _; rw [List.length_take]; omega)
      have hsplit : v.journal = v.journal.take (v.journal.length - 1) ++ [e] := by
        conv => lhs; rw [← List.take_append_drop (v.journal.length - 1) v.journal]
        congr 1
        refine List.ext_getElem? fun i => ?_
        rw [List.getElem?_drop]
        cases i with
        | zero => rw [Nat.add_zero, he]; rfl
        | succ i => rw [List.getElem?_eq_none (by omega)]; simp
      have hscAt : ∀ i, i ≤ k → ({ u with journal := v.journal.take (v.journal.length - 1) } : V).scAt i = v.scAt i := by
        intro i hi
        show ((v.journal.take (v.journal.length - 1)).drop i).foldr Sc.back u.sc = (v.journal.drop i).foldr Sc.back v.sc
        conv => rhs; rw [hsplit]
        rw [List.drop_append_of_le_length (by rw [List.length_take]; omega), List.foldr_append, hsc.1]
        rfl
      refine ⟨ih.inv, ?_, fun i hi => (ih.sc i hi).trans (hscAt i hi), ih.orig.trans hsc.2, ih.adr.trans hot.1, ih.s.trans hot.2.1, ih.t.trans hot.2.2.1, Nat.le_trans ih.l hot.2.2.2, ih.nm.trans hj.2.1, ih.mrk.trans hj.2.2⟩
      rw [ih.j]
      show (v.journal.take (v.journal.length - 1)).take k = _
      rw [List.take_take]; congr 1; omega
/-- what reverting leaves -/
structure Revd (v u : V) (id : Int) : Prop where
  inv : VInv u
  j : u.journal.length ≤ v.journal.length
  nm : u.nmarks = id
  a : u.accts.length = v.accts.length
  s : u.slots.length = v.slots.length
  t : u.temps.length = v.temps.length
  l : u.logs.length ≤ v.logs.length
  ent : ∀ A, v.entered A → u.entered A
  past : ∀ S sp, WPast v S sp → WPast u S sp ∧ WNow u S sp
theorem revertTo_go {v : V} (h : VInv v) {id : Int} (h0 : 0 ≤ id) (h1 : id < v.nmarks) : (v.revertTo id).1 = true ∧ Revd v (v.revertTo id).2 id := by
  have hnm := h.nm
  have hlive : v.live id = true := by unfold V.live; simp; omega
  have e : v.revertTo id = (true, { (V.undoAll v.journal.length { v with nmarks := id + 1 }) with nmarks := id }) := by unfold V.revertTo; rw [if_pos hlive]
  rw [e]
  have hv1 : VInv { v with nmarks := id + 1 } := { h with
    nm := by show 0 ≤ id + 1 ∧ id + 1 ≤ 16384; omega
    m0 := fun i hi => h.m0 i (by have : (i : Int) < id + 1 := hi; omega)
    mm := fun i j hij hj => h.mm i j hij (by have : (j : Int) < id + 1 := hj; omega) }
  have hmk := h.m0 id.toNat (by omega)
  have hB := undoAll_go (v.marks id.toNat).toNat v.journal.length { v with nmarks := id + 1 } hv1 (by show 0 < id + 1; omega) (by show v.marks (id + 1 - 1).toNat = _; rw [Int.toNat_of_nonneg hmk.1]; congr 2; omega) (by show v.journal.length ≤ _; omega)
  generalize V.undoAll v.journal.length { v with nmarks := id + 1 } = u at hB
  have hnmu : u.nmarks = id + 1 := hB.nm
  have hmku : u.marks = v.marks := hB.mrk
  have hju : u.journal = v.journal.take (v.marks id.toNat).toNat := hB.j
  have hadr : u.accts.map (·.addr) = v.accts.map (·.addr) := hB.adr
  refine ⟨rfl, { hB.inv with nm := ?_, m0 := ?_, mm := ?_ }, ?_, rfl, ?_, hB.s, hB.t, hB.l, ?_, ?_⟩
  · show 0 ≤ id ∧ id ≤ 16384; omega
  · intro i hi
    exact hB.inv.m0 i (by have : (i : Int) < id := hi; omega)
  · intro i j hij hj
    exact hB.inv.mm i j hij (by have : (j : Int) < id := hj; omega)
  · show u.journal.length ≤ _; rw [hju, List.length_take]; omega
  · show u.accts.length = _; have := congrArg List.length hadr; simpa using this
  · rintro A ⟨x, hx, hxA⟩
    have : A ∈ u.accts.map (·.addr) := by rw [hadr]; exact List.mem_map.2 ⟨x, hx, hxA⟩
    obtain ⟨y, hy, hyA⟩ := List.mem_map.1 this
    exact ⟨y, hy, hyA⟩
  · intro S sp hp
    have hor : u.origs = v.origs := hB.orig
    constructor
    · refine ⟨fun i hi => ?_⟩
      have hi : (i : Int) < id := hi
      have hm := h.mm i id.toNat (by omega) (by omega)
      have hm0 := h.m0 i (by omega)
      show WOK u.origs S sp (u.scAt (u.marks i).toNat)
      rw [hor, hmku, hB.sc _ (by omega)]
      exact hp.at_ i (by omega)
    · show WOK u.origs S sp u.sc
      have : u.sc = v.scAt (v.marks id.toNat).toNat := by
        have e2 := hB.sc (v.marks id.toNat).toNat (Nat.le_refl _)
        have e3 : u.journal.length = (v.marks id.toNat).toNat := by rw [hju, List.length_take]; omega
        rw [← e3, scAt_end, e3] at e2
        exact e2
      rw [hor, this]
      exact hp.at_ id.toNat (by omega)
end Go.Proofs.YgvacwGreat
