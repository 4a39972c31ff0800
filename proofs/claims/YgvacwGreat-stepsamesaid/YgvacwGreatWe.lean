
import Derived.Test.YgvacwGreatWd
namespace Go.Proofs.YgvacwGreat
set_option linter.unusedSimpArgs false
set_option linter.unusedVariables false
theorem eOK {k a n : Int} {w : List Int} {s : SV} {fl : Bool} {na ns nt : Nat} (hk : 0 ≤ k ∧ k ≤ 10) (ha : 0 ≤ a ∧ a < eSize na ns nt k) (hn : n ≠ 0 → k = 1 ∨ k = 6) (hr : k = 6 → 0 ≤ n ∧ n ≤ 209715200)
    (hw : w ≠ [0, 0, 0, 0] → k = 0 ∨ k = 3 ∨ k = 8) (hb : s.1 ≠ none → k = 2) (hc : CodeOK s) (hf : fl = true → k = 4 ∨ k = 5 ∨ k = 9 ∨ k = 10) : EntryOK na ns nt ⟨k, a, n, w, s, fl⟩ := ⟨hk, ha, hn, hr, hw, hb, hc, hf⟩
theorem codeOK_nil : CodeOK (none, 0, 0) := ⟨by simp, Or.inr rfl⟩
theorem putNonce_go {v : V} (h : VInv v) {A : List Int} {n : Int} (hr : v.entered A ∨ v.accts.length < 2560) (hj : v.journal.length < 65536) :
    (v.putNonce A n).1 = true ∧ ∃ a, SetA v A (fun x => { x with nonce := n }) a (v.putNonce A n).2 :=
  setA_go h hr hj (fun _ => rfl) (ac_code h) (fun i m hi => eOK (by decide) ⟨by omega, by simp [eSize]; omega⟩ (fun _ => Or.inl rfl) (fun e => by cases e) (fun e => absurd rfl e) (fun e => absurd rfl e) codeOK_nil (fun e => by cases e)) (by simp) (fun _ => rfl) (fun _ => rfl) (Or.inr ⟨by simp, by simp, by simp, rfl⟩)
theorem putBal_go {v : V} (h : VInv v) {A b : List Int} (hr : v.entered A ∨ v.accts.length < 2560) (hj : v.journal.length < 65536) :
    (v.putBal A b).1 = true ∧ ∃ a, SetA v A (fun x => { x with bal := b }) a (v.putBal A b).2 :=
  setA_go h hr hj (fun _ => rfl) (ac_code h) (fun i m hi => eOK (by decide) ⟨by omega, by simp [eSize]; omega⟩ (fun e => absurd rfl e) (fun e => by cases e) (fun _ => Or.inl rfl) (fun e => absurd rfl e) codeOK_nil (fun e => by cases e)) (by simp) (fun _ => rfl) (fun _ => rfl) (Or.inl ⟨rfl, fun _ => rfl⟩)
theorem warmA_go {v : V} (h : VInv v) {A : List Int} (hr : v.entered A ∨ v.accts.length < 2560) (hj : v.journal.length < 65536) :
    (v.warmA A).1 = true ∧ ∃ a, SetA v A (fun x => { x with warm := true }) a (v.warmA A).2 :=
  setA_go h hr hj (fun _ => rfl) (ac_code h) (fun i m hi => eOK (by decide) ⟨by omega, by simp [eSize]; omega⟩ (fun e => absurd rfl e) (fun e => by cases e) (fun e => absurd rfl e) (fun e => absurd rfl e) codeOK_nil (fun _ => Or.inl rfl)) (by simp) (fun _ => rfl) (fun _ => rfl) (Or.inr ⟨by simp, by simp, by simp, rfl⟩)
theorem markMade_go {v : V} (h : VInv v) {A : List Int} (hr : v.entered A ∨ v.accts.length < 2560) (hj : v.journal.length < 65536) :
    (v.markMade A).1 = true ∧ ∃ a, SetA v A (fun x => { x with made := true }) a (v.markMade A).2 :=
  setA_go h hr hj (fun _ => rfl) (ac_code h) (fun i m hi => eOK (by decide) ⟨by omega, by simp [eSize]; omega⟩ (fun e => absurd rfl e) (fun e => by cases e) (fun e => absurd rfl e) (fun e => absurd rfl e) codeOK_nil (fun _ => by simp)) (by simp) (fun _ => rfl) (fun _ => rfl) (Or.inr ⟨by simp, by simp, by simp, rfl⟩)
theorem markGone_go {v : V} (h : VInv v) {A : List Int} (hr : v.entered A ∨ v.accts.length < 2560) (hj : v.journal.length < 65536) :
    (v.markGone A).1 = true ∧ ∃ a, SetA v A (fun x => { x with gone := true }) a (v.markGone A).2 :=
  setA_go h hr hj (fun _ => rfl) (ac_code h) (fun i m hi => eOK (by decide) ⟨by omega, by simp [eSize]; omega⟩ (fun e => absurd rfl e) (fun e => by cases e) (fun e => absurd rfl e) (fun e => absurd rfl e) codeOK_nil (fun _ => by simp)) (by simp) (fun _ => rfl) (fun _ => rfl) (Or.inr ⟨by simp, by simp, by simp, rfl⟩)
theorem putCode_go {v : V} (h : VInv v) {A : List Int} {n : Nat} {s : SV} (hr : v.entered A ∨ v.accts.length < 2560) (hj : v.journal.length < 65536) (hn : n ≤ 256) (hs : CodeOK s) :
    (v.putCode A n s).1 = true ∧ ∃ a, SetA v A (fun x => { x with code := s }) a (v.putCode A n s).2 := by
  unfold V.putCode
  rw [if_neg (by omega)]
  exact setA_go h hr hj (fun _ => rfl) hs (fun i m hi => eOK (by decide) ⟨by omega, by simp [eSize]; omega⟩ (fun e => absurd rfl e) (fun e => by cases e) (fun e => absurd rfl e) (fun _ => rfl) (ac_code h) (fun e => by cases e)) (by simp) (fun _ => rfl) (fun _ => rfl) (Or.inr ⟨by simp, by simp, by simp, rfl⟩)
/-! slots -/
def V.sl (v : V) (A K : List Int) : Slot := (v.getS A K).getD (newS (v.findA A).1 K)
theorem sl_val {v : V} {A K : List Int} : (v.sl A K).val = v.sval A K := by unfold V.sl V.sval; cases v.getS A K <;> rfl
theorem sl_orig {v : V} {A K : List Int} : (v.sl A K).orig = v.sorig A K := by unfold V.sl V.sorig; cases v.getS A K <;> rfl
theorem sl_warm {v : V} {A K : List Int} : (v.sl A K).warm = v.isWarmS A K := by unfold V.sl V.isWarmS; cases v.getS A K <;> rfl
theorem getS_iff {v : V} (h : VInv v) {A K : List Int} (hA : v.entered A) {s : Slot} : v.getS A K = some s ↔ ∃ j : Nat, v.slots[j]? = some s ∧ s.acct = (v.findA A).1 ∧ s.key = K := by
  have h0 := (found_iff h).2 hA
  constructor
  · intro hg
    unfold V.getS at hg
    split at hg
    · rename_i hp
      obtain ⟨x, hx, h1, h2⟩ := peekS_some hp
      rw [hx] at hg; injection hg with hg; subst hg
      exact ⟨_, hx, h1, h2⟩
    · cases hg
  · rintro ⟨j, hj, h1, h2⟩
    have hf := h.fs j s hj
    have hp : v.peekS A K = j := by unfold V.peekS; rw [if_neg (by omega), ← h1, ← h2]; exact hf
    unfold V.getS; rw [hp, if_pos (by omega), Int.toNat_natCast, hj]
structure SetS (v : V) (A K : List Int) (g : Slot → Slot) (b : Nat) (v' : V) : Prop where
  go : VGo v v' 1 0 b 0 0
  b1 : b ≤ 1
  b0 : v.getS A K ≠ none → b = 0
  here : v'.getS A K = some (g (v.sl A K))
  accts : v'.accts = v.accts
  ref : v'.ref = v.ref
  clr : cleared v'.sc.vals v'.origs + (if (v.sl A K).val = [0, 0, 0, 0] ∧ (v.sl A K).orig ≠ [0, 0, 0, 0] then 1 else 0) = cleared v.sc.vals v.origs + (if (g (v.sl A K)).val = [0, 0, 0, 0] ∧ (v.sl A K).orig ≠ [0, 0, 0, 0] then 1 else 0)
  nj : v'.journal.length = v.journal.length + 1
theorem findA_congr {v v' : V} (h1 : v'.accts = v.accts) (h2 : v'.atab = v.atab) (A : List Int) : v'.findA A = v.findA A := by unfold V.findA; rw [h1, h2]
theorem setS_go {v : V} (h : VInv v) {A K : List Int} {e : Int → Slot → Entry} {g : Slot → Slot} (hA : v.entered A) (hr : v.getS A K ≠ none ∨ v.slots.length < 2560) (hj : v.journal.length < 65536)
    (hg : ∀ x, (g x).acct = x.acct ∧ (g x).key = x.key ∧ (g x).orig = x.orig) (he : ∀ i n : Nat, i < n → EntryOK v.accts.length n v.temps.length (e i (v.sl A K)))
    (hk : (e 0 (v.sl A K)).kind ≠ 7) (hki : ∀ i, (e i (v.sl A K)).kind = (e 0 (v.sl A K)).kind) (hat : ∀ i : Nat, (e i (v.sl A K)).at_ = i)
    (hb : ((e 0 (v.sl A K)).kind = 3 ∧ ∀ i, (e i (v.sl A K)).w = (v.sl A K).val) ∨ ((e 0 (v.sl A K)).kind ≠ 0 ∧ (e 0 (v.sl A K)).kind ≠ 3 ∧ (e 0 (v.sl A K)).kind ≠ 6 ∧ (g (v.sl A K)).val = (v.sl A K).val)) :
    (v.setS A K e g).1 = true ∧ ∃ b, SetS v A K g b (v.setS A K e g).2 := by
  have h0 := (found_iff h).2 hA
  have hac : v.acct A = (((v.findA A).1, true), v) := by unfold V.acct; rw [if_pos h0]
  have hso : v.slotOf A K = v.slot (v.findA A).1 K := by
    unfold V.slotOf; rw [if_neg (by omega), hac]; simp
  obtain ⟨i, b, v1, hsl, hinv1, hai, hsa, hb1, hb0, ho⟩ : ∃ (i b : Nat) (v1 : V), v.slot (v.findA A).1 K = (((i : Int), true), v1) ∧ VInv v1 ∧ v1.slots[i]? = some (v.sl A K) ∧ v1.slots = v.slots ++ List.replicate b (newS (v.findA A).1 K) ∧ b ≤ 1 ∧ (v.getS A K ≠ none → b = 0) ∧ v1 = { v with slots := v1.slots, stab := v1.stab } := by
    by_cases hs : 0 ≤ (v.findS (v.findA A).1 K).1
    · obtain ⟨x, hx, hx1, hx2⟩ := findS_some hs
      refine ⟨(v.findS (v.findA A).1 K).1.toNat, 0, v, ?_, h, ?_, by simp, by omega, fun _ => rfl, rfl⟩
      · unfold V.slot; rw [if_pos hs, Int.toNat_of_nonneg hs]
      · rw [hx]; unfold V.sl; rw [(getS_iff h hA).2 ⟨_, hx, hx1, hx2⟩]; rfl
    · have hn : v.getS A K = none := by
        cases hg' : v.getS A K with
        | none => rfl
        | some s =>
          obtain ⟨j, hj', h1, h2⟩ := (getS_iff h hA).1 hg'
          have := h.fs j s hj'
          rw [h1, h2] at this; omega
      have hl := hr.resolve_left (fun e => e hn)
      obtain ⟨x, hx, _⟩ := findA_some h0
      have := lt_of_getElem? hx
      obtain ⟨h2, h3⟩ := h.addS (a := (v.findA A).1) (K := K) ⟨h0, by omega⟩ (by omega) hl
      refine ⟨v.slots.length, 1, _, ?_, h3, ?_, rfl, by omega, fun e => absurd hn e, rfl⟩
      · unfold V.slot; rw [if_neg hs, if_neg (by omega)]
      · show (v.slots ++ [newS (v.findA A).1 K])[v.slots.length]? = _
        unfold V.sl; rw [hn]; simp
  have hi := lt_of_getElem? hai
  have hj1 : v1.journal = v.journal := by rw [ho]
  have hA1 : v1.accts = v.accts := by rw [ho]
  have hT1 : v1.atab = v.atab := by rw [ho]
  have ht1 : v1.temps = v.temps := by rw [ho]
  have hl1 : v1.logs = v.logs := by rw [ho]
  have hr1 : v1.ref = v.ref := by rw [ho]
  have hnm : v1.nmarks = v.nmarks := by rw [ho]
  have hmk : v1.marks = v.marks := by rw [ho]
  have hfA : (v.findA A).1 = (v1.findA A).1 := by rw [findA_congr hA1 hT1]
  generalize hx : v.sl A K = x at *
  have hxk : x.acct = (v.findA A).1 ∧ x.key = K := by
    rw [← hx]; unfold V.sl
    cases hg' : v.getS A K with
    | none => exact ⟨rfl, rfl⟩
    | some s => obtain ⟨j, _, h1, h2⟩ := (getS_iff h hA).1 hg'; exact ⟨h1, h2⟩
  have heq : v.setS A K e g = (true, { v1 with journal := v1.journal ++ [e i x], slots := v1.slots.set i (g x) }) := by
    unfold V.setS
    rw [if_neg (by omega), hso, hsl]
    simp only [if_true, Int.toNat_natCast]
    rw [hai]
  rw [heq]
  have hinv2 : VInv { v1 with slots := v1.slots.set i (g x) } := hinv1.updS hai ⟨(hg x).1, (hg x).2.1⟩
  have hinv : VInv { v1 with journal := v1.journal ++ [e i x], slots := v1.slots.set i (g x) } :=
    hinv2.push (e := e i x) (by show EntryOK v1.accts.length (v1.slots.set i (g x)).length v1.temps.length _; rw [List.length_set, hA1, ht1]; exact he i _ hi) (by rw [hki]; exact hk) (by show v1.journal.length < _; rw [hj1]; exact hj)
  have hsc1 : ScX v.sc v1.sc 0 b := by
    refine ⟨?_, ?_, hr1⟩
    · show v1.accts.map _ = v.accts.map _ ++ _; rw [hA1]; simp
    · show v1.slots.map _ = v.slots.map _ ++ _; rw [hsa, List.map_append, map_rep]; rfl
  have hor1 : v1.origs = v.origs ++ List.replicate b [0, 0, 0, 0] := by
    show v1.slots.map _ = v.slots.map _ ++ _; rw [hsa, List.map_append, map_rep]; rfl
  have hor2 : ({ v1 with journal := v1.journal ++ [e i x], slots := v1.slots.set i (g x) } : V).origs = v1.origs := by
    show (v1.slots.set i (g x)).map _ = v1.slots.map _
    rw [List.map_set, (hg x).2.2, set_same (by simp [hai])]
  have hback : Sc.back (e i x) ({ v1 with journal := v1.journal ++ [e i x], slots := v1.slots.set i (g x) } : V).sc = v1.sc := by
    unfold Sc.back
    rw [hki, hat]
    have hbi : (v1.slots.map (·.val))[i]? = some x.val := by simp [hai]
    rcases hb with ⟨h1, h2⟩ | ⟨h1, h2, h3, h4⟩
    · rw [if_neg (by omega), if_pos h1, h2]
      simp only [V.sc, List.map_set, List.set_set, Int.toNat_natCast]
      rw [set_same hbi]
    · rw [if_neg h1, if_neg h2, if_neg h3]
      simp only [V.sc, List.map_set, h4]
      rw [set_same hbi]
  refine ⟨rfl, b, ⟨⟨hinv, ?_, ?_, ?_, ?_, ?_, hnm, hmk, ?_, ?_⟩, hb1, hb0, ?_, hA1, hr1, ?_, ?_⟩⟩
  · show (v1.journal ++ [e i x]).length ≤ _; rw [hj1]; simp
  · show v1.accts.length ≤ _; rw [hA1]; omega
  · show (v1.slots.set i (g x)).length ≤ _; rw [List.length_set, hsa]; simp
  · show v1.logs.length ≤ _; rw [hl1]; omega
  · show v1.temps.length ≤ _; rw [ht1]; omega
  · intro S sp hp
    exact hp.push h (e := e i x) (by show v1.journal ++ [e i x] = _; rw [hj1]) (by rw [hback]; exact hsc1) (by rw [hor2, hor1]) hnm hmk
  · rintro X ⟨y, hy, hyX⟩
    exact ⟨y, by show y ∈ v1.accts; rw [hA1]; exact hy, hyX⟩
  · have hA2 : ({ v1 with journal := v1.journal ++ [e i x], slots := v1.slots.set i (g x) } : V).entered A := by obtain ⟨y, hy, hyA⟩ := hA; exact ⟨y, by show y ∈ v1.accts; rw [hA1]; exact hy, hyA⟩
    rw [hx]
    refine (getS_iff hinv hA2).2 ⟨i, by show (v1.slots.set i (g x))[i]? = _; rw [List.getElem?_set_self hi], ?_, ?_⟩
    · rw [(hg x).1, hxk.1, hfA]; rfl
    · rw [(hg x).2.1, hxk.2]
  · rw [hor2, hx]
    show cleared ((v1.slots.set i (g x)).map _) v1.origs + _ = _
    rw [List.map_set]
    have := cleared_set (v1.slots.map (·.val)) v1.origs i x.val (g x).val x.orig (by simp [hai]) (by simp [V.origs, hai])
    rw [this]
    have e2 : cleared (v1.slots.map (·.val)) v1.origs = cleared v.sc.vals v.origs := by
      have := hsc1.vals
      show cleared v1.sc.vals v1.origs = _
      rw [this, hor1, cleared_append _ _ _ _ (by simp [V.sc, V.origs]), cleared_zero, Int.add_zero]
    rw [e2]
  · show (v1.journal ++ [e i x]).length = _; rw [hj1]; simp
theorem store_go {v : V} (h : VInv v) {A K n : List Int} (hA : v.entered A) (hr : v.getS A K ≠ none ∨ v.slots.length < 2560) (hj : v.journal.length < 65536) :
    (v.store A K n).1 = true ∧ ∃ b, SetS v A K (fun x => { x with val := n }) b (v.store A K n).2 :=
  setS_go h hA hr hj (fun _ => ⟨rfl, rfl, rfl⟩) (fun i m hi => eOK (by decide) ⟨by omega, by simp [eSize]; omega⟩ (fun e => absurd rfl e) (fun e => by cases e) (fun _ => Or.inr (Or.inl rfl)) (fun e => absurd rfl e) codeOK_nil (fun e => by cases e)) (by simp) (fun _ => rfl) (fun _ => rfl) (Or.inl ⟨rfl, fun _ => rfl⟩)
theorem warmS_go {v : V} (h : VInv v) {A K : List Int} (hA : v.entered A) (hr : v.getS A K ≠ none ∨ v.slots.length < 2560) (hj : v.journal.length < 65536) :
    (v.warmS A K).1 = true ∧ ∃ b, SetS v A K (fun x => { x with warm := true }) b (v.warmS A K).2 :=
  setS_go h hA hr hj (fun _ => ⟨rfl, rfl, rfl⟩) (fun i m hi => eOK (by decide) ⟨by omega, by simp [eSize]; omega⟩ (fun e => absurd rfl e) (fun e => by cases e) (fun e => absurd rfl e) (fun e => absurd rfl e) codeOK_nil (fun _ => by simp)) (by simp) (fun _ => rfl) (fun _ => rfl) (Or.inr ⟨by simp, by simp, by simp, rfl⟩)
end Go.Proofs.YgvacwGreat
