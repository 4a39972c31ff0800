import Derived.Test.YgvacwGreatEa
namespace Go.Proofs.YgvacwGreat
set_option linter.unusedSimpArgs false
set_option linter.unusedVariables false
/-! the vault's steps, seen by lookups -/
theorem SInv.uqA {s : Sx} (h : SInv s) : Uq (fun x : Acct => x.addr) s.a := h.ua
theorem adr_inj {s : Sx} (h : SInv s) {i j : Int} (hi : 0 ≤ i ∧ i < s.a.length) (hj : 0 ≤ j ∧ j < s.a.length) (he : adrOf s.a i = adrOf s.a j) : i = j := by
  unfold adrOf at he
  rw [List.getElem?_eq_getElem (by omega : i.toNat < s.a.length), List.getElem?_eq_getElem (by omega : j.toNat < s.a.length)] at he
  simp only [Option.map_some, Option.some.injEq] at he
  have := h.ua i.toNat j.toNat _ _ (List.getElem?_eq_getElem (by omega)) (List.getElem?_eq_getElem (by omega)) he
  omega
theorem SInv.uqS {s : Sx} (h : SInv s) : Uq (keyS s.a) s.s := by
  intro i j x y hx hy hk
  simp only [keyS, Prod.mk.injEq] at hk
  exact h.us i j x y hx hy (adr_inj h (h.s x (List.mem_of_getElem? hx)) (h.s y (List.mem_of_getElem? hy)) hk.1) hk.2
theorem SInv.uqT {s : Sx} (h : SInv s) : Uq (keyT s.a) s.t := by
  intro i j x y hx hy hk
  simp only [keyT, Prod.mk.injEq] at hk
  exact h.ut i j x y hx hy (adr_inj h (h.t x (List.mem_of_getElem? hx)) (h.t y (List.mem_of_getElem? hy)) hk.1) hk.2
theorem lkA_hit {s : Sx} (h : SInv s) {i : Nat} {x : Acct} (hx : s.a[i]? = some x) : lkA s.a x.addr = x := by
  unfold lkA; rw [lkG_hit h.uqA hx rfl]; rfl
theorem ac_lk {v : V} (h : VInv v) (A : List Int) : v.acY A = lkA v.accts A := by
  unfold V.acY
  cases hg : v.get A with
  | none =>
    have := (get_none_iff h).1 hg
    have hn : lkG (fun x : Acct => x.addr) v.accts A = none := lkG_none.2 (fun x hx e => this ⟨x, hx, e⟩)
    unfold lkA; simp [hn]
  | some x =>
    obtain ⟨i, hi, hxa⟩ := (get_iff h).1 hg
    have := lkA_hit (s := v.sx) h.sx hi
    rw [hxa] at this
    exact this.symm
theorem findA_adr {v : V} (h : VInv v) {A : List Int} {i : Int} (hi : 0 ≤ i ∧ i < v.accts.length) : adrOf v.accts i = some A ↔ i = (v.findA A).1 := by
  unfold adrOf
  rw [List.getElem?_eq_getElem (by omega : i.toNat < v.accts.length)]
  simp only [Option.map_some, Option.some.injEq]
  have h1 := h.fa i.toNat _ (List.getElem?_eq_getElem (by omega))
  constructor
  · intro e; rw [e] at h1; omega
  · intro e
    obtain ⟨x, hx, hxa⟩ := findA_some (v := v) (A := A) (by omega)
    rw [← e] at hx
    rw [List.getElem?_eq_getElem (by omega : i.toNat < v.accts.length)] at hx
    cases hx; exact hxa
theorem sl_lk {v : V} (h : VInv v) (A K : List Int) : (v.sval A K, v.sorig A K, v.isWarmS A K) = lkS v.accts v.slots A K := by
  unfold lkS
  by_cases hA : v.entered A
  · cases hg : v.getS A K with
    | none =>
      have hn : lkG (keyS v.accts) v.slots (some A, K) = none := by
        rw [lkG_none]
        intro x hx e
        simp only [keyS, Prod.mk.injEq] at e
        rw [findA_adr h (h.sl x hx)] at e
        obtain ⟨j, hj⟩ := List.getElem?_of_mem hx
        rw [(getS_iff h hA).2 ⟨j, hj, e.1, e.2⟩] at hg
        cases hg
      rw [hn]; unfold V.sval V.sorig V.isWarmS; rw [hg]; rfl
    | some x =>
      obtain ⟨j, hj, h1, h2⟩ := (getS_iff h hA).1 hg
      have : lkG (keyS v.accts) v.slots (some A, K) = some x := lkG_hit h.sx.uqS hj (by simp only [keyS, Prod.mk.injEq]; exact ⟨(findA_adr h (h.sl x (List.mem_of_getElem? hj))).2 h1, h2⟩)
      rw [this]; unfold V.sval V.sorig V.isWarmS; rw [hg]; rfl
  · have hf : (v.findA A).1 < 0 := by
      rcases Int.lt_or_le (v.findA A).1 0 with hc | hc
      · exact hc
      · exact absurd ((found_iff h).1 hc) hA
    have hg : v.getS A K = none := by unfold V.getS V.peekS; rw [if_pos hf, if_neg (by decide)]
    have hn : lkG (keyS v.accts) v.slots (some A, K) = none := by
      rw [lkG_none]
      intro x hx e
      simp only [keyS, Prod.mk.injEq] at e
      rw [findA_adr h (h.sl x hx)] at e
      have := h.sl x hx
      omega
    rw [hn]; unfold V.sval V.sorig V.isWarmS; rw [hg]; rfl
theorem tl_lk {v : V} (h : VInv v) (A K : List Int) : v.tload A K = lkT v.accts v.temps A K := by
  unfold lkT V.tload
  by_cases hp : 0 ≤ v.peekT A K
  · rw [if_pos hp]
    have hf : 0 ≤ (v.findA A).1 := by
      unfold V.peekT at hp; split at hp
      · assumption
      · omega
    have hp2 : 0 ≤ (v.findT (v.findA A).1 K).1 := by unfold V.peekT at hp; rw [if_pos hf] at hp; exact hp
    obtain ⟨x, hx, h1, h2⟩ := findT_some hp2
    have e : v.peekT A K = (v.findT (v.findA A).1 K).1 := by unfold V.peekT; rw [if_pos hf]
    have : lkG (keyT v.accts) v.temps (some A, K) = some x := lkG_hit h.sx.uqT hx (by simp only [keyT, Prod.mk.injEq]; exact ⟨(findA_adr h (h.tl x (List.mem_of_getElem? hx))).2 h1, h2⟩)
    rw [e, hx, this]; rfl
  · rw [if_neg hp]
    have hn : lkG (keyT v.accts) v.temps (some A, K) = none := by
      rw [lkG_none]
      intro x hx e
      simp only [keyT, Prod.mk.injEq] at e
      rw [findA_adr h (h.tl x hx)] at e
      obtain ⟨j, hj⟩ := List.getElem?_of_mem hx
      have h1 := h.ft j x hj
      have h2 := h.tl x hx
      apply hp
      unfold V.peekT
      rw [if_pos (by omega), ← e.1, ← e.2, h1]; omega
    rw [hn]; rfl
/-- the past is kept, and the values at the transaction's start -/
structure VK (v v' : V) : Prop where
  jl : v.journal.length ≤ v'.journal.length
  past : ∀ k, k ≤ v.journal.length → SxE (v.past k) (v'.past k)
  mrk : v'.marks = v.marks
  nm : v'.nmarks = v.nmarks
  og : ∀ A K, (lkS v'.accts v'.slots A K).2.1 = (lkS v.accts v.slots A K).2.1
theorem VK.refl (v : V) : VK v v := ⟨Nat.le_refl _, fun _ _ => SxE.refl _, rfl, rfl, fun _ _ => rfl⟩
theorem VK.trans {v v1 v2 : V} (h : VK v v1) (h' : VK v1 v2) : VK v v2 :=
  ⟨Nat.le_trans h.jl h'.jl, fun k hk => (h.past k hk).trans (h'.past k (Nat.le_trans hk h.jl)), h'.mrk.trans h.mrk, h'.nm.trans h.nm, fun A K => (h'.og A K).trans (h.og A K)⟩
theorem mod_mod {α : Type} {l : List α} {i : Nat} {x : α} {f g : α → α} (hx : l[i]? = some x) (h : f (g x) = x) : (l.modify i g).modify i f = l := by
  refine List.ext_getElem? fun j => ?_
  rw [get_mod, get_mod]
  by_cases hij : i = j
  · subst hij; rw [hx]; simp [h]
  · cases l[j]? <;> simp [hij]
theorem adrOf_mod {l : List Acct} {i : Nat} {g : Acct → Acct} (hg : ∀ x, (g x).addr = x.addr) (j : Int) : adrOf (l.modify i g) j = adrOf l j := by
  unfold adrOf
  rw [get_mod]
  cases l[j.toNat]? with
  | none => rfl
  | some x => simp only [Option.map_some, Option.some.injEq]; split; exact hg x; rfl
theorem lkA_mod {s : Sx} (h : SInv s) {i : Nat} {x : Acct} {g : Acct → Acct} (hx : s.a[i]? = some x) (hg : ∀ x, (g x).addr = x.addr) (X : List Int) : lkA (s.a.modify i g) X = if X = x.addr then g x else lkA s.a X := by
  unfold lkA
  rw [lkG_mod h.uqA hx hg]
  split <;> rfl
/-- a field of an account is set -/
structure SetX (v : V) (A : List Int) (g : Acct → Acct) (v' : V) : Prop where
  vk : VK v v'
  acY : ∀ X, lkA v'.accts X = if X = A then g (lkA v.accts A) else lkA v.accts X
  sl : ∀ X K, lkS v'.accts v'.slots X K = lkS v.accts v.slots X K
  tp : ∀ X K, lkT v'.accts v'.temps X K = lkT v.accts v.temps X K
  ref : v'.ref = v.ref
  n : v'.logs.length = v.logs.length
theorem acct_x {v : V} {A : List Int} {i a : Nat} {v' : V} {r : Int × Bool} (h : AcctGo v A i a v' r) : SxE v.sx v'.sx := by
  have ho := h.oth
  refine ⟨⟨List.replicate a (newA A), h.acc, ?_⟩, ⟨[], by rw [ho]; simp [V.sx], by simp⟩, ⟨[], by rw [ho]; simp [V.sx], by simp⟩, by rw [ho]; rfl, by rw [ho]; rfl⟩
  intro x hx; rw [(List.mem_replicate.1 hx).2]; rfl
theorem setA_x {v : V} (h : VInv v) {A : List Int} {e : Int → Acct → Entry} {g : Acct → Acct} (hr : v.entered A ∨ v.accts.length < 2560) (hj : v.journal.length < 65536)
    (hg : ∀ x, (g x).addr = x.addr) (hk : ∀ (i : Nat) x, (e i x).isA) (hat : ∀ (i : Nat) x, (e i x).at_ = i) (hu : ∀ (i : Nat) x, undoA (e i x) (g x) = x) :
    SetX v A g (v.setA A e g).2 := by
  obtain ⟨i, a, hA⟩ := acct_go h hr
  have hE := acct_x hA
  have hok := hA.ok
  generalize hac : v.acct A = acY at hA hE hok
  obtain ⟨r, v1⟩ := acY
  simp only at hA hE hok
  subst hok
  have hvi := hA.oth
  have hai := hA.at_
  have hx := ac_lk h A
  have hxa : (lkA v.accts A).addr = A := by rw [← hx]; exact ac_addr h
  rw [hx] at hai
  generalize hxx : lkA v.accts A = x at hai hxa
  have heq : v.setA A e g = (true, { v1 with journal := v1.journal ++ [e i x], accts := v1.accts.set i (g x) }) := by
    unfold V.setA
    rw [if_neg (by omega), hac]
    simp only [if_true, Int.toNat_natCast]
    rw [hai]
  rw [heq, set_mod g hai]
  have hj1 : v1.journal = v.journal := by rw [hvi]
  have hs1 : v1.slots = v.slots := by rw [hvi]
  have ht1 : v1.temps = v.temps := by rw [hvi]
  have hl1 : v1.logs = v.logs := by rw [hvi]
  have hr1 : v1.ref = v.ref := by rw [hvi]
  have hSI := hA.inv.sx
  have hrng := h.sx.toRng
  have hadr : keyS (v1.accts.modify i g) = keyS v1.accts := funext fun r => by unfold keyS; rw [adrOf_mod hg]
  have hadt : keyT (v1.accts.modify i g) = keyT v1.accts := funext fun r => by unfold keyT; rw [adrOf_mod hg]
  have hsl : ∀ X K, lkS (v1.accts.modify i g) v1.slots X K = lkS v.accts v.slots X K := fun X K => by
    have := lkS_ext hE hrng X K
    unfold lkS at this ⊢; rw [hadr]; exact this
  have htp : ∀ X K, lkT (v1.accts.modify i g) v1.temps X K = lkT v.accts v.temps X K := fun X K => by
    have := lkT_ext hE hrng X K
    unfold lkT at this ⊢; rw [hadt]; exact this
  refine ⟨⟨by show _ ≤ (v1.journal ++ _).length; rw [hj1]; simp, fun k hk' => past_push h (e := e i x) (by show v1.journal ++ _ = _; rw [hj1]) ?_ hk', by show v1.marks = _; rw [hvi], by show v1.nmarks = _; rw [hvi], fun X K => by show (lkS (v1.accts.modify i g) v1.slots X K).2.1 = _; rw [hsl]⟩, ?_, hsl, htp, hr1, by show v1.logs.length = _; rw [hl1]⟩
  · have : Sx.back (e i x) ({ v1 with journal := v1.journal ++ [e i x], accts := v1.accts.modify i g } : V).sx = v1.sx := by
      unfold Sx.back
      rw [if_pos (hk i x), hat]
      simp only [V.sx, Int.toNat_natCast]
      rw [mod_mod hai (hu i x)]
    rw [this]; exact hE
  · intro X
    show lkA (v1.accts.modify i g) X = _
    have := lkA_mod hSI hai hg X
    have e2 : lkA v1.accts X = lkA v.accts X := by rw [hA.acc]; exact lkA_ext (fun y hy => by rw [(List.mem_replicate.1 hy).2]; rfl) X
    rw [hxa] at this
    exact this.trans (by show (if X = A then g x else lkA v1.accts X) = _; rw [e2, hxx])
theorem putNonce_x {v : V} (h : VInv v) {A : List Int} {n : Int} (hr : v.entered A ∨ v.accts.length < 2560) (hj : v.journal.length < 65536) : SetX v A (fun x => { x with nonce := n }) (v.putNonce A n).2 :=
  setA_x h hr hj (fun _ => rfl) (fun _ _ => by simp [Entry.isA, Entry.isS]) (fun _ _ => rfl) (fun _ _ => rfl)
theorem putBal_x {v : V} (h : VInv v) {A b : List Int} (hr : v.entered A ∨ v.accts.length < 2560) (hj : v.journal.length < 65536) : SetX v A (fun x => { x with bal := b }) (v.putBal A b).2 :=
  setA_x h hr hj (fun _ => rfl) (fun _ _ => by simp [Entry.isA, Entry.isS]) (fun _ _ => rfl) (fun _ _ => rfl)
theorem warmA_x {v : V} (h : VInv v) {A : List Int} (hr : v.entered A ∨ v.accts.length < 2560) (hj : v.journal.length < 65536) : SetX v A (fun x => { x with warm := true }) (v.warmA A).2 :=
  setA_x h hr hj (fun _ => rfl) (fun _ _ => by simp [Entry.isA, Entry.isS]) (fun _ _ => rfl) (fun _ _ => rfl)
theorem markMade_x {v : V} (h : VInv v) {A : List Int} (hr : v.entered A ∨ v.accts.length < 2560) (hj : v.journal.length < 65536) : SetX v A (fun x => { x with made := true }) (v.markMade A).2 :=
  setA_x h hr hj (fun _ => rfl) (fun _ _ => by simp [Entry.isA, Entry.isS]) (fun _ _ => rfl) (fun _ _ => rfl)
theorem markGone_x {v : V} (h : VInv v) {A : List Int} (hr : v.entered A ∨ v.accts.length < 2560) (hj : v.journal.length < 65536) : SetX v A (fun x => { x with gone := true }) (v.markGone A).2 :=
  setA_x h hr hj (fun _ => rfl) (fun _ _ => by simp [Entry.isA, Entry.isS]) (fun _ _ => rfl) (fun _ _ => rfl)
theorem putCode_x {v : V} (h : VInv v) {A : List Int} {n : Nat} {s : SV} (hr : v.entered A ∨ v.accts.length < 2560) (hj : v.journal.length < 65536) (hn : n ≤ 256) : SetX v A (fun x => { x with code := s }) (v.putCode A n s).2 := by
  unfold V.putCode
  rw [if_neg (by omega)]
  exact setA_x h hr hj (fun _ => rfl) (fun _ _ => by simp [Entry.isA, Entry.isS]) (fun _ _ => rfl) (fun _ _ => rfl)
/-- a field of a slot is set -/
structure SetY (v : V) (A K : List Int) (g : SvT → SvT) (v' : V) : Prop where
  vk : VK v v'
  acY : ∀ X, lkA v'.accts X = lkA v.accts X
  sl : ∀ X J, lkS v'.accts v'.slots X J = if X = A ∧ J = K then g (lkS v.accts v.slots A K) else lkS v.accts v.slots X J
  tp : ∀ X J, lkT v'.accts v'.temps X J = lkT v.accts v.temps X J
  ref : v'.ref = v.ref
  n : v'.logs.length = v.logs.length
theorem setS_x {v : V} (h : VInv v) {A K : List Int} {e : Int → Slot → Entry} {g : Slot → Slot} {g' : SvT → SvT} (hA : v.entered A) (hr : v.getS A K ≠ none ∨ v.slots.length < 2560) (hj : v.journal.length < 65536)
    (hg : ∀ x, (g x).acct = x.acct ∧ (g x).key = x.key ∧ (g x).orig = x.orig) (hg' : ∀ x, slT (g x) = g' (slT x)) (hgo : ∀ x, (g' x).2.1 = x.2.1) (hk : ∀ (i : Nat) x, (e i x).isS) (hat : ∀ (i : Nat) x, (e i x).at_ = i) (hu : ∀ (i : Nat) x, undoS (e i x) (g x) = x) :
    SetY v A K g' (v.setS A K e g).2 := by
  have h0 := (found_iff h).2 hA
  have hac : v.acct A = (((v.findA A).1, true), v) := by unfold V.acct; rw [if_pos h0]
  have hso : v.slotOf A K = v.slot (v.findA A).1 K := by
    unfold V.slotOf; rw [if_neg (by omega), hac]; simp
  obtain ⟨i, v1, x, L, hsl, hinv1, hai, hsa, hL, hxk, ho⟩ : ∃ (i : Nat) (v1 : V) (x : Slot) (L : List Slot), v.slot (v.findA A).1 K = (((i : Int), true), v1) ∧ VInv v1 ∧ v1.slots[i]? = some x ∧ v1.slots = v.slots ++ L ∧ (∀ y ∈ L, slT y = sl0) ∧ (x.acct = (v.findA A).1 ∧ x.key = K) ∧ v1 = { v with slots := v1.slots, stab := v1.stab } := by
    by_cases hs : 0 ≤ (v.findS (v.findA A).1 K).1
    · obtain ⟨x, hx, hx1, hx2⟩ := findS_some hs
      refine ⟨(v.findS (v.findA A).1 K).1.toNat, v, x, [], ?_, h, hx, by simp, by simp, ⟨hx1, hx2⟩, rfl⟩
      unfold V.slot; rw [if_pos hs, Int.toNat_of_nonneg hs]
    · have hn : v.getS A K = none := by
        cases hg' : v.getS A K with
        | none => rfl
        | some s =>
          obtain ⟨j, hj', h1, h2⟩ := (getS_iff h hA).1 hg'
          have := h.fs j s hj'
          rw [h1, h2] at this; omega
      have hl := hr.resolve_left (fun e => e hn)
      obtain ⟨x, hx, _⟩ := findA_some h0
      have := lt_of_getElem? hx
      obtain ⟨h2, h3⟩ := h.addS (a := (v.findA A).1) (K := K) ⟨h0, by omega⟩ (by omega) hl
      refine ⟨v.slots.length, _, newS (v.findA A).1 K, [newS (v.findA A).1 K], ?_, h3, ?_, rfl, ?_, ⟨rfl, rfl⟩, rfl⟩
      · unfold V.slot; rw [if_neg hs, if_neg (by omega)]
      · show (v.slots ++ [newS (v.findA A).1 K])[v.slots.length]? = _
        simp
      · intro y hy; rw [List.mem_singleton.1 hy]; rfl
  have hj1 : v1.journal = v.journal := by rw [ho]
  have hA1 : v1.accts = v.accts := by rw [ho]
  have ht1 : v1.temps = v.temps := by rw [ho]
  have hl1 : v1.logs = v.logs := by rw [ho]
  have hr1 : v1.ref = v.ref := by rw [ho]
  have hE : SxE v.sx v1.sx := ⟨⟨[], by simp [V.sx, hA1], by simp⟩, ⟨L, hsa, hL⟩, ⟨[], by simp [V.sx, ht1], by simp⟩, hr1, by simp [V.sx, hl1]⟩
  have heq : v.setS A K e g = (true, { v1 with journal := v1.journal ++ [e i x], slots := v1.slots.set i (g x) }) := by
    unfold V.setS
    rw [if_neg (by omega), hso, hsl]
    simp only [if_true, Int.toNat_natCast]
    rw [hai]
  rw [heq, set_mod g hai]
  have hSI := hinv1.sx
  have hrng := h.sx.toRng
  obtain ⟨x0, hx0, _⟩ := findA_some h0
  have hlt := lt_of_getElem? hx0
  have hkx : keyS v1.accts x = (some A, K) := by
    unfold keyS
    rw [hxk.2, hA1, (findA_adr h (i := x.acct) (A := A) (by rw [hxk.1]; omega)).2 hxk.1]
  have hlk : lkS v1.accts v1.slots A K = slT x := by unfold lkS; rw [lkG_hit (key := keyS v1.accts) (l := v1.slots) hSI.uqS hai hkx]; rfl
  have hold : ∀ X J, lkS v1.accts v1.slots X J = lkS v.accts v.slots X J := fun X J => lkS_ext hE hrng X J
  have hsl2 : ∀ X J, lkS v1.accts (v1.slots.modify i g) X J = if X = A ∧ J = K then g' (lkS v.accts v.slots A K) else lkS v.accts v.slots X J := fun X J => by
    rw [← hold X J, ← hold A K, hlk]
    unfold lkS
    rw [lkG_mod (key := keyS v1.accts) (l := v1.slots) hSI.uqS hai (fun r => by unfold keyS; rw [(hg r).1, (hg r).2.1]), hkx]
    by_cases hh : X = A ∧ J = K
    · rw [if_pos (by rw [hh.1, hh.2]), if_pos hh]; simp only [Option.map_some, Option.getD_some]; exact hg' x
    · rw [if_neg (by intro e; simp only [Prod.mk.injEq, Option.some.injEq] at e; exact hh e), if_neg hh]
  refine ⟨⟨by show _ ≤ (v1.journal ++ _).length; rw [hj1]; simp, fun k hk' => past_push h (e := e i x) (by show v1.journal ++ _ = _; rw [hj1]) ?_ hk', by show v1.marks = _; rw [ho], by show v1.nmarks = _; rw [ho], fun X J => by show (lkS v1.accts (v1.slots.modify i g) X J).2.1 = _; rw [hsl2]; split; (rename_i hh; rw [hgo, hh.1, hh.2]); rfl⟩, fun X => by show lkA v1.accts X = _; rw [hA1], hsl2, fun X J => by show lkT v1.accts v1.temps X J = _; rw [hA1, ht1], hr1, by show v1.logs.length = _; rw [hl1]⟩
  have : Sx.back (e i x) ({ v1 with journal := v1.journal ++ [e i x], slots := v1.slots.modify i g } : V).sx = v1.sx := by
    unfold Sx.back
    have hS := hk i x
    rw [if_neg (by unfold Entry.isA; unfold Entry.isS at hS; omega), if_pos hS, hat]
    simp only [V.sx, Int.toNat_natCast]
    rw [mod_mod hai (hu i x)]
  rw [this]; exact hE
theorem store_x {v : V} (h : VInv v) {A K n : List Int} (hA : v.entered A) (hr : v.getS A K ≠ none ∨ v.slots.length < 2560) (hj : v.journal.length < 65536) : SetY v A K (fun x => (n, x.2)) (v.store A K n).2 :=
  setS_x h hA hr hj (fun _ => ⟨rfl, rfl, rfl⟩) (fun _ => rfl) (fun _ => rfl) (fun _ _ => by simp [Entry.isA, Entry.isS]) (fun _ _ => rfl) (fun _ _ => rfl)
theorem warmS_x {v : V} (h : VInv v) {A K : List Int} (hA : v.entered A) (hr : v.getS A K ≠ none ∨ v.slots.length < 2560) (hj : v.journal.length < 65536) : SetY v A K (fun x => (x.1, x.2.1, true)) (v.warmS A K).2 :=
  setS_x h hA hr hj (fun _ => ⟨rfl, rfl, rfl⟩) (fun _ => rfl) (fun _ => rfl) (fun _ _ => by simp [Entry.isA, Entry.isS]) (fun _ _ => rfl) (fun _ _ => rfl)
/-- nothing of the accounts and slots is set -/
structure SetZ (v v' : V) : Prop where
  vk : VK v v'
  acY : v'.accts = v.accts
  sl : v'.slots = v.slots
theorem quiet_x {v v' : V} (h : VInv v) {e : Entry} (hj : v'.journal = v.journal ++ [e]) (ha : v'.accts = v.accts) (hs : v'.slots = v.slots) (hm : v'.marks = v.marks) (hn : v'.nmarks = v.nmarks) (hb : SxE v.sx (Sx.back e v'.sx)) : SetZ v v' :=
  ⟨⟨by rw [hj]; simp, fun k hk => past_push h hj hb hk, hm, hn, fun A K => by rw [ha, hs]⟩, ha, hs⟩
theorem refUp_x {v : V} (h : VInv v) {n : Int} (hn : 0 ≤ n) (hr : v.ref + n ≤ 209715200) (hj : v.journal.length < 65536) : SetZ v (v.refUp n).2 ∧ (v.refUp n).2.temps = v.temps ∧ (v.refUp n).2.ref = v.ref + n ∧ (v.refUp n).2.logs = v.logs := by
  have := h.rf
  unfold V.refUp
  rw [if_neg (by omega)]
  refine ⟨quiet_x h rfl rfl rfl rfl rfl ?_, rfl, rfl, rfl⟩
  simp only [Sx.back, V.sx]
  simp
  exact SxE.refl _
theorem refDown_x {v : V} (h : VInv v) {n : Int} (hn : 0 ≤ n) (hr : n ≤ v.ref) (hj : v.journal.length < 65536) : SetZ v (v.refDown n).2 ∧ (v.refDown n).2.temps = v.temps ∧ (v.refDown n).2.ref = v.ref - n ∧ (v.refDown n).2.logs = v.logs := by
  have := h.rf
  unfold V.refDown
  rw [if_neg (by omega)]
  refine ⟨quiet_x h rfl rfl rfl rfl rfl ?_, rfl, rfl, rfl⟩
  simp only [Sx.back, V.sx]
  simp
  exact SxE.refl _
theorem putLog_x {v : V} (h : VInv v) {x : LogR} (hx : x.topics.2.1 ≤ 4 ∧ x.data.2.1 ≤ 717280) (hl : v.logs.length < 2800) (hj : v.journal.length < 65536) : SetZ v (v.putLog x).2 ∧ (v.putLog x).2.temps = v.temps ∧ (v.putLog x).2.ref = v.ref ∧ (v.putLog x).2.logs = v.logs ++ [x] := by
  unfold V.putLog
  rw [if_neg (by omega)]
  refine ⟨quiet_x h rfl rfl rfl rfl rfl ?_, rfl, rfl, rfl⟩
  simp only [Sx.back, V.sx]
  simp
  exact SxE.refl _
theorem tstore_x {v : V} (h : VInv v) {A K n : List Int} (hA : v.entered A) (hl : v.temps.length < 12288) (hj : v.journal.length < 65536) : SetZ v (v.tstore A K n).2 ∧ (v.tstore A K n).2.ref = v.ref ∧ (v.tstore A K n).2.logs = v.logs ∧ ∀ X J, lkT (v.tstore A K n).2.accts (v.tstore A K n).2.temps X J = if X = A ∧ J = K then n else lkT v.accts v.temps X J := by
  have h0 := (found_iff h).2 hA
  have hac : v.acct A = (((v.findA A).1, true), v) := by unfold V.acct; rw [if_pos h0]
  obtain ⟨x0, hx0, _⟩ := findA_some h0
  have hlt := lt_of_getElem? hx0
  obtain ⟨i, v1, x, L, hto, hinv1, hx, hsa, hL, hxk, ho⟩ : ∃ (i : Nat) (v1 : V) (x : Temp) (L : List Temp), v.tempOf A K = (((i : Int), true), v1) ∧ VInv v1 ∧ v1.temps[i]? = some x ∧ v1.temps = v.temps ++ L ∧ (∀ y ∈ L, y.val = [0, 0, 0, 0]) ∧ (x.acct = (v.findA A).1 ∧ x.key = K) ∧ v1 = { v with temps := v1.temps, ttab := v1.ttab } := by
    unfold V.tempOf
    by_cases hp : 0 ≤ v.peekT A K
    · rw [if_pos hp]
      have hp' := hp
      unfold V.peekT at hp'
      rw [if_pos h0] at hp'
      obtain ⟨y, hy, h1, h2⟩ := findT_some hp'
      refine ⟨(v.peekT A K).toNat, v, y, [], by rw [Int.toNat_of_nonneg hp], h, ?_, by simp, by simp, ⟨h1, h2⟩, rfl⟩
      unfold V.peekT; rw [if_pos h0]; exact hy
    · rw [if_neg hp, if_neg (by omega), hac]
      simp only [if_true]
      obtain ⟨hw1, hw2⟩ := h.withTT
      have hwo := withTT_oth v
      have hwt : v.withTT.temps = v.temps := by rw [hwo]
      have hwa : v.withTT.accts = v.accts := by rw [hwo]
      have hn : (v.withTT.findT (v.findA A).1 K).1 < 0 := by
        rcases Int.lt_or_le (v.withTT.findT (v.findA A).1 K).1 0 with hc | hc
        · exact hc
        · exfalso
          obtain ⟨y, hy, h1, h2⟩ := findT_some hc
          rw [hwt] at hy
          have h3 := h.ft _ y hy
          rw [h1, h2] at h3
          unfold V.peekT at hp
          rw [if_pos h0, h3] at hp
          omega
      obtain ⟨e1, e2, e3⟩ := tempNew_go hw1 (a := (v.findA A).1) (K := K) ⟨h0, by rw [hwa]; omega⟩ hw2 hn (by rw [hwt]; exact hl)
      have e4 := tempNew_oth v.withTT (v.findA A).1 K
      refine ⟨v.temps.length, (v.withTT.tempNew (v.findA A).1 K).2, newT (v.findA A).1 K, [newT (v.findA A).1 K], ?_, e2, ?_, ?_, ?_, ⟨rfl, rfl⟩, ?_⟩
      · rw [← hwt, ← e1]
      · rw [e3, hwt]; simp
      · rw [e3, hwt]
      · intro y hy; rw [List.mem_singleton.1 hy]; rfl
      · have h5 : ∀ (u z : V), z = { v with ttab := z.ttab } → u = { z with temps := u.temps, ttab := u.ttab } → u = { v with temps := u.temps, ttab := u.ttab } := by
          intro u z hz hu
          rw [hz] at hu
          exact hu
        exact h5 _ _ hwo e4
  have heq : v.tstore A K n = (true, { v1 with journal := v1.journal ++ [⟨8, i, 0, x.val, (none, 0, 0), false⟩], temps := v1.temps.set i { x with val := n } }) := by
    unfold V.tstore V.setT
    rw [if_neg (by omega), hto]
    simp only [if_true, Int.toNat_natCast]
    rw [hx]
  rw [heq, set_mod (fun y : Temp => { y with val := n }) hx]
  have hj1 : v1.journal = v.journal := by rw [ho]
  have hA1 : v1.accts = v.accts := by rw [ho]
  have hs1 : v1.slots = v.slots := by rw [ho]
  have hr1 : v1.ref = v.ref := by rw [ho]
  have hl1 : v1.logs = v.logs := by rw [ho]
  have hE : SxE v.sx v1.sx := ⟨⟨[], by simp [V.sx, hA1], by simp⟩, ⟨[], by simp [V.sx, hs1], by simp⟩, ⟨L, hsa, hL⟩, hr1, by simp [V.sx, hl1]⟩
  have hSI := hinv1.sx
  have hkx : keyT v1.accts x = (some A, K) := by
    unfold keyT
    rw [hxk.2, hA1, (findA_adr h (i := x.acct) (A := A) (by rw [hxk.1]; omega)).2 hxk.1]
  refine ⟨quiet_x h (e := ⟨8, i, 0, x.val, (none, 0, 0), false⟩) (by show v1.journal ++ _ = _; rw [hj1]) hA1 hs1 (by show v1.marks = _; rw [ho]) (by show v1.nmarks = _; rw [ho]) ?_, hr1, hl1, ?_⟩
  · have : Sx.back ⟨8, i, 0, x.val, (none, 0, 0), false⟩ ({ v1 with journal := v1.journal ++ [⟨8, i, 0, x.val, (none, 0, 0), false⟩], temps := v1.temps.modify i (fun y : Temp => { y with val := n }) } : V).sx = v1.sx := by
      unfold Sx.back
      rw [if_neg (by simp [Entry.isA]), if_neg (by simp [Entry.isS]), if_pos rfl]
      simp only [V.sx, Int.toNat_natCast]
      rw [mod_mod (f := fun y : Temp => { y with val := x.val }) hx rfl]
    rw [this]; exact hE
  · intro X J
    show lkT v1.accts (v1.temps.modify i _) X J = _
    have hold : lkT v1.accts v1.temps X J = lkT v.accts v.temps X J := lkT_ext hE h.sx.toRng X J
    rw [← hold]
    unfold lkT
    rw [lkG_mod (key := keyT v1.accts) (l := v1.temps) (g := fun y : Temp => { y with val := n }) hSI.uqT hx (fun r => rfl), hkx]
    by_cases hh : X = A ∧ J = K
    · rw [if_pos (by rw [hh.1, hh.2]), if_pos hh]; rfl
    · rw [if_neg (by intro e; simp only [Prod.mk.injEq, Option.some.injEq] at e; exact hh e), if_neg hh]
end Go.Proofs.YgvacwGreat
