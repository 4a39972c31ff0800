import Derived.Test.YgvacwGreatEb
import Derived.Test.YgvacwGreatHk
import Derived.Test.YgvacwGreatJa
namespace Go.Proofs.YgvacwGreat
set_option linter.unusedSimpArgs false
set_option linter.unusedVariables false
/-! yp's lists, seen by lookups -/
theorem yslot_go (k v k' : Nat) : ∀ (b : Bool) (l : List (Nat × Nat)), yslot (ystoreGo k v b l) k' = if k' = k then (if b then 0 else v) else yslot l k' := by
  intro b l
  unfold yslot
  induction l generalizing b with
  | nil =>
    unfold ystoreGo
    cases b
    · by_cases h : k' = k
      · simp [h]
      · simp [h, al_ns h]
    · simp
  | cons s l ih =>
    unfold ystoreGo
    rw [List.find?_append, List.find?_append]
    by_cases h : k' = k
    · subst h
      have ih' := fun b => ih b
      simp only [if_true] at ih' ⊢
      have h1 : (if s.1 ≠ k' then [s] else []).find? (fun x => x.1 = k') = none := by
        split
        · rename_i h; simp [h]
        · rfl
      rw [h1]
      cases b
      · by_cases hk : k' ≤ s.1
        · simp [hk]
        · simpa [hk] using ih' false
      · simpa using ih' true
    · have h0 : (if (!b && decide (k ≤ s.1)) = true then [(k, v)] else []).find? (fun x => x.1 = k') = none := by
        split
        · simp [al_ns h]
        · rfl
      rw [h0]
      simp only [Option.none_or, List.find?_cons, if_neg h]
      by_cases hs : s.1 = k
      · have : ¬ s.1 = k' := by omega
        have ih2 := ih (b || !b && decide (k ≤ s.1))
        rw [if_neg h] at ih2
        simp only [hs, al_ne, al_nt, al_i0, List.find?_nil, Option.none_or]
        rw [hs] at ih2
        rw [ih2]
        simp [hs, al_ns h]
      · by_cases hs' : s.1 = k'
        · simp [hs, hs', h]
        · have ih2 := ih (b || !b && decide (k ≤ s.1))
          rw [if_neg h] at ih2
          simp only [al_ne, hs, al_nf, if_true, List.find?_cons, hs', al_df, List.find?_nil, Option.none_or]
          exact ih2
theorem yacct_store (l : List PA) (A B : List Int) (k v : Nat) : yacct (ystore l A k v) B = if B = A then { yacct l A with slots := ystoreGo k v (decide (v = 0)) (yacct l A).slots } else yacct l B := by
  unfold ystore; rw [yacct_put]; show (if B = (yacct l A).addr then _ else _) = _; rw [yacct_addr]
theorem yload_store (l : List PA) (A B : List Int) (k v j : Nat) : yload (ystore l A k v) B j = if B = A ∧ j = k then v else yload l B j := by
  unfold yload
  rw [yacct_store]
  by_cases hB : B = A
  · rw [if_pos hB]
    show yslot (ystoreGo k v (decide (v = 0)) (yacct l A).slots) j = _
    rw [yslot_go]
    by_cases hj : j = k
    · have hBj : B = A ∧ j = k := ⟨hB, hj⟩
      rw [if_pos hj, if_pos hBj]
      by_cases hv : v = 0
      · simp [hv]
      · simp [hv]
    · have hBj : ¬ (B = A ∧ j = k) := fun e => hj e.2
      rw [if_neg hj, if_neg hBj, hB]
  · rw [if_neg hB, if_neg (fun e => hB e.1)]
theorem mem_withGo (A X : List Int) : ∀ (b : Bool) (l : List (List Int)), X ∈ ywithGo A b l ↔ X ∈ l ∨ (b = false ∧ X = A) := by
  intro b l
  induction l generalizing b with
  | nil => unfold ywithGo; cases b <;> simp
  | cons y l ih =>
    unfold ywithGo
    rw [List.mem_append, List.mem_cons, ih]
    cases b
    · cases yless A y
      · simp; constructor
        · rintro (h | h | h)
          · exact Or.inl (Or.inl h)
          · exact Or.inl (Or.inr h)
          · exact Or.inr h
        · rintro ((h | h) | h)
          · exact Or.inl h
          · exact Or.inr (Or.inl h)
          · exact Or.inr (Or.inr h)
      · simp; constructor
        · rintro (h | h | h)
          · exact Or.inr h
          · exact Or.inl (Or.inl h)
          · exact Or.inl (Or.inr h)
        · rintro ((h | h) | h)
          · exact Or.inr (Or.inl h)
          · exact Or.inr (Or.inr h)
          · exact Or.inl h
    · simp
theorem mem_with (l : List (List Int)) (A X : List Int) : X ∈ ywith l A ↔ X ∈ l ∨ X = A := by
  unfold ywith
  split
  · rename_i h
    constructor
    · exact Or.inl
    · rintro (h1 | h1)
      · exact h1
      · rw [h1]; exact h
  · rw [mem_withGo]; simp
theorem mem_mkGo (A : List Int) (k : Nat) (X : List Int × Nat) : ∀ (b : Bool) (l : List (List Int × Nat)), X ∈ ymkGo A k b l ↔ X ∈ l ∨ (b = false ∧ X = (A, k)) := by
  intro b l
  induction l generalizing b with
  | nil => unfold ymkGo; cases b <;> simp
  | cons y l ih =>
    unfold ymkGo
    rw [List.mem_append, List.mem_cons, ih]
    cases b
    · cases ymIns A k y
      · simp; constructor
        · rintro (h | h | h)
          · exact Or.inl (Or.inl h)
          · exact Or.inl (Or.inr h)
          · exact Or.inr h
        · rintro ((h | h) | h)
          · exact Or.inl h
          · exact Or.inr (Or.inl h)
          · exact Or.inr (Or.inr h)
      · simp; constructor
        · rintro (h | h | h)
          · exact Or.inr h
          · exact Or.inl (Or.inl h)
          · exact Or.inl (Or.inr h)
        · rintro ((h | h) | h)
          · exact Or.inr (Or.inl h)
          · exact Or.inr (Or.inr h)
          · exact Or.inl h
    · simp
theorem mem_mk (l : List (List Int × Nat)) (A : List Int) (k : Nat) (X : List Int × Nat) : X ∈ ymk l A k ↔ X ∈ l ∨ X = (A, k) := by
  unfold ymk
  split
  · rename_i h
    constructor
    · exact Or.inl
    · rintro (h1 | h1)
      · exact h1
      · rw [h1]; exact h
  · rw [mem_mkGo]; simp
theorem ytl_go (A : List Int) (k v : Nat) (B : List Int) (j : Nat) : ∀ (b : Bool) (l : List (List Int × Nat × Nat)), ytl (ytsGo A k v b l) B j = if B = A ∧ j = k then (if b then 0 else v) else ytl l B j := by
  intro b l
  unfold ytl
  induction l generalizing b with
  | nil =>
    unfold ytsGo
    cases b
    · by_cases h : B = A ∧ j = k
      · simp [h.1, h.2]
      · have h' : ¬ (A = B ∧ k = j) := fun e => h ⟨e.1.symm, e.2.symm⟩
        simp [h, h']
    · simp
  | cons s l ih =>
    unfold ytsGo
    rw [List.find?_append, List.find?_append]
    by_cases h : B = A ∧ j = k
    · obtain ⟨rfl, rfl⟩ := h
      have ih' := fun b => ih b
      simp only [al_as, if_true] at ih' ⊢
      have h1 : (if (!ytSame B j s) = true then [s] else []).find? (fun t => t.1 = B ∧ t.2.1 = j) = none := by
        split
        · rename_i h
          have h' : ¬ (s.1 = B ∧ s.2.1 = j) := by
            intro e; simp [ytSame, e.1, e.2] at h
          simp [h']
        · rfl
      rw [h1]
      cases b
      · cases hi : ytIns B j s
        · simpa [hi] using ih' false
        · simp [hi]
      · simpa using ih' true
    · have h' : ¬ (A = B ∧ k = j) := fun e => h ⟨e.1.symm, e.2.symm⟩
      have h0 : (if (!b && ytIns A k s) = true then [(A, k, v)] else []).find? (fun t => t.1 = B ∧ t.2.1 = j) = none := by
        split
        · simp [h']
        · rfl
      rw [h0]
      have ih2 := ih (b || !b && ytIns A k s)
      rw [if_neg h] at ih2
      simp only [Option.none_or, List.find?_cons, if_neg h]
      by_cases hs : s.1 = A ∧ s.2.1 = k
      · have e1 : ytSame A k s = true := by simp [ytSame, hs.1, hs.2]
        have e2 : ¬ (s.1 = B ∧ s.2.1 = j) := by rw [hs.1, hs.2]; exact h'
        simp only [e1, al_bnt, e2, al_df, List.find?_nil, Option.none_or]
        simpa using ih2
      · have e1 : ytSame A k s = false := by simp [ytSame]; intro e; exact fun e' => hs ⟨e, e'⟩
        by_cases hs' : s.1 = B ∧ s.2.1 = j
        · simp [e1, hs'.1, hs'.2]
        · simp only [e1, al_bnf, if_true, List.find?_cons, hs', al_df, List.find?_nil, Option.none_or]
          exact ih2
theorem ytl_ts (l : List (List Int × Nat × Nat)) (A B : List Int) (k v j : Nat) : ytl (yts l A k v) B j = if B = A ∧ j = k then v else ytl l B j := by
  unfold yts
  rw [ytl_go]
  by_cases h : B = A ∧ j = k
  · rw [if_pos h, if_pos h]; by_cases hv : v = 0 <;> simp [hv]
  · rw [if_neg h, if_neg h]
/-! the two worlds -/
structure VR (rd : SV → List Int) (s : Sx) (p : PW) : Prop where
  bal : ∀ A, wn (lkA s.a A).bal = (yacct p.accts A).bal
  nonce : ∀ A, (lkA s.a A).nonce = ((yacct p.accts A).nonce : Int)
  code : ∀ A, rd (lkA s.a A).code = (yacct p.accts A).code
  warm : ∀ A, (lkA s.a A).warm = decide (A ∈ p.warmA)
  made : ∀ A, (lkA s.a A).made = decide (A ∈ p.made)
  gone : ∀ A, (lkA s.a A).gone = decide (A ∈ p.gone)
  sval : ∀ A K, Wd K → wn (lkS s.a s.s A K).1 = yload p.accts A (wn K)
  swrm : ∀ A K, Wd K → (lkS s.a s.s A K).2.2 = decide ((A, wn K) ∈ p.warmS)
  temp : ∀ A K, Wd K → wn (lkT s.a s.t A K) = ytl p.temps A (wn K)
  ref : s.ref = (p.ref : Int)
  logs : s.n = p.nlogs
theorem VR.ext {rd : SV → List Int} {s s' : Sx} {p : PW} (h : VR rd s p) (hE : SxE s s') (hr : Rng s) : VR rd s' p := by
  have hA : ∀ A, lkA s'.a A = lkA s.a A := fun A => by obtain ⟨L, h1, h2⟩ := hE.a; rw [h1]; exact lkA_ext h2 A
  refine ⟨fun A => by rw [hA]; exact h.bal A, fun A => by rw [hA]; exact h.nonce A, fun A => by rw [hA]; exact h.code A, fun A => by rw [hA]; exact h.warm A, fun A => by rw [hA]; exact h.made A, fun A => by rw [hA]; exact h.gone A, fun A K hK => by rw [lkS_ext hE hr]; exact h.sval A K hK, fun A K hK => by rw [lkS_ext hE hr]; exact h.swrm A K hK, fun A K hK => by rw [lkT_ext hE hr]; exact h.temp A K hK, by rw [hE.ref]; exact h.ref, by rw [hE.n]; exact h.logs⟩
theorem SetX.putBal {rd : SV → List Int} {v v' : V} {A b : List Int} {p : PW} (hx : SetX v A (fun x => { x with bal := b }) v') (h : VR rd v.sx p) : VR rd v'.sx { p with accts := ysetBal p.accts A (wn b) } := by
  refine ⟨fun X => ?_, fun X => ?_, fun X => ?_, fun X => ?_, fun X => ?_, fun X => ?_, fun X K hK => ?_, fun X K hK => ?_, fun X K hK => ?_, ?_, ?_⟩
  · show wn (lkA v'.accts X).bal = (yacct (ysetBal _ _ _) X).bal; rw [hx.acY, yacct_setBal]; split
    · rfl
    · exact h.bal X
  · show (lkA v'.accts X).nonce = ((yacct (ysetBal _ _ _) X).nonce : Int); rw [hx.acY, yacct_setBal]; split
    · exact h.nonce A
    · exact h.nonce X
  · show rd (lkA v'.accts X).code = (yacct (ysetBal _ _ _) X).code; rw [hx.acY, yacct_setBal]; split
    · exact h.code A
    · exact h.code X
  · show (lkA v'.accts X).warm = _; rw [hx.acY]; split
    · rename_i e; rw [e]; exact h.warm A
    · exact h.warm X
  · show (lkA v'.accts X).made = _; rw [hx.acY]; split
    · rename_i e; rw [e]; exact h.made A
    · exact h.made X
  · show (lkA v'.accts X).gone = _; rw [hx.acY]; split
    · rename_i e; rw [e]; exact h.gone A
    · exact h.gone X
  · show wn (lkS v'.accts v'.slots X K).1 = yslot (yacct (ysetBal _ _ _) X).slots _
    rw [hx.sl, yacct_setBal]; split
    · rename_i e; rw [e]; exact h.sval A K hK
    · exact h.sval X K hK
  · show (lkS v'.accts v'.slots X K).2.2 = _; rw [hx.sl]; exact h.swrm X K hK
  · show wn (lkT v'.accts v'.temps X K) = _; rw [hx.tp]; exact h.temp X K hK
  · exact hx.ref.trans h.ref
  · exact hx.n.trans h.logs
theorem SetX.putNonce {rd : SV → List Int} {v v' : V} {A : List Int} {n : Int} {k : Nat} {p : PW} (hx : SetX v A (fun x => { x with nonce := n }) v') (h : VR rd v.sx p) (hn : n = (k : Int)) : VR rd v'.sx { p with accts := ysetNonce p.accts A k } := by
  refine ⟨fun X => ?_, fun X => ?_, fun X => ?_, fun X => ?_, fun X => ?_, fun X => ?_, fun X K hK => ?_, fun X K hK => ?_, fun X K hK => ?_, ?_, ?_⟩
  · show wn (lkA v'.accts X).bal = (yacct (ysetNonce _ _ _) X).bal; rw [hx.acY, yacct_setNonce]; split
    · exact h.bal A
    · exact h.bal X
  · show (lkA v'.accts X).nonce = ((yacct (ysetNonce _ _ _) X).nonce : Int); rw [hx.acY, yacct_setNonce]; split
    · exact hn
    · exact h.nonce X
  · show rd (lkA v'.accts X).code = (yacct (ysetNonce _ _ _) X).code; rw [hx.acY, yacct_setNonce]; split
    · exact h.code A
    · exact h.code X
  · show (lkA v'.accts X).warm = _; rw [hx.acY]; split
    · rename_i e; rw [e]; exact h.warm A
    · exact h.warm X
  · show (lkA v'.accts X).made = _; rw [hx.acY]; split
    · rename_i e; rw [e]; exact h.made A
    · exact h.made X
  · show (lkA v'.accts X).gone = _; rw [hx.acY]; split
    · rename_i e; rw [e]; exact h.gone A
    · exact h.gone X
  · show wn (lkS v'.accts v'.slots X K).1 = yslot (yacct (ysetNonce _ _ _) X).slots _
    rw [hx.sl, yacct_setNonce]; split
    · rename_i e; rw [e]; exact h.sval A K hK
    · exact h.sval X K hK
  · show (lkS v'.accts v'.slots X K).2.2 = _; rw [hx.sl]; exact h.swrm X K hK
  · show wn (lkT v'.accts v'.temps X K) = _; rw [hx.tp]; exact h.temp X K hK
  · exact hx.ref.trans h.ref
  · exact hx.n.trans h.logs
/-- the code of an account is put -/
theorem yacct_code (l : List PA) (A B : List Int) (c : List Int) : yacct (yput l { yacct l A with code := c }) B = if B = A then { yacct l A with code := c } else yacct l B := by
  rw [yacct_put]; show (if B = (yacct l A).addr then _ else _) = _; rw [yacct_addr]
theorem SetX.putCode {rd : SV → List Int} {v v' : V} {A : List Int} {s : SV} {c : List Int} {p : PW} (hx : SetX v A (fun x => { x with code := s }) v') (h : VR rd v.sx p) (hc : rd s = c) : VR rd v'.sx { p with accts := yput p.accts { yacct p.accts A with code := c } } := by
  refine ⟨fun X => ?_, fun X => ?_, fun X => ?_, fun X => ?_, fun X => ?_, fun X => ?_, fun X K hK => ?_, fun X K hK => ?_, fun X K hK => ?_, ?_, ?_⟩
  · show wn (lkA v'.accts X).bal = (yacct (yput _ _) X).bal; rw [hx.acY, yacct_code]; split
    · exact h.bal A
    · exact h.bal X
  · show (lkA v'.accts X).nonce = ((yacct (yput _ _) X).nonce : Int); rw [hx.acY, yacct_code]; split
    · exact h.nonce A
    · exact h.nonce X
  · show rd (lkA v'.accts X).code = (yacct (yput _ _) X).code; rw [hx.acY, yacct_code]; split
    · exact hc
    · exact h.code X
  · show (lkA v'.accts X).warm = _; rw [hx.acY]; split
    · rename_i e; rw [e]; exact h.warm A
    · exact h.warm X
  · show (lkA v'.accts X).made = _; rw [hx.acY]; split
    · rename_i e; rw [e]; exact h.made A
    · exact h.made X
  · show (lkA v'.accts X).gone = _; rw [hx.acY]; split
    · rename_i e; rw [e]; exact h.gone A
    · exact h.gone X
  · show wn (lkS v'.accts v'.slots X K).1 = yslot (yacct (yput _ _) X).slots _
    rw [hx.sl, yacct_code]; split
    · rename_i e; rw [e]; exact h.sval A K hK
    · exact h.sval X K hK
  · show (lkS v'.accts v'.slots X K).2.2 = _; rw [hx.sl]; exact h.swrm X K hK
  · show wn (lkT v'.accts v'.temps X K) = _; rw [hx.tp]; exact h.temp X K hK
  · exact hx.ref.trans h.ref
  · exact hx.n.trans h.logs
theorem dec_or {p q r : Prop} [Decidable p] [Decidable q] [Decidable r] (h : r ↔ p ∨ q) : decide r = (decide p || decide q) := by
  by_cases hp : p <;> by_cases hq : q <;> simp [h, hp, hq]
theorem SetX.mark {rd : SV → List Int} {v v' : V} {A : List Int} {g : Acct → Acct} {p p' : PW} (hx : SetX v A g v') (h : VR rd v.sx p) (hb : ∀ x, (g x).bal = x.bal ∧ (g x).nonce = x.nonce ∧ (g x).code = x.code)
    (ha : p'.accts = p.accts) (hs : p'.warmS = p.warmS) (ht : p'.temps = p.temps) (hr : p'.ref = p.ref) (hl : p'.nlogs = p.nlogs)
    (hw : ∀ X, (lkA v'.accts X).warm = decide (X ∈ p'.warmA)) (hm : ∀ X, (lkA v'.accts X).made = decide (X ∈ p'.made)) (hg : ∀ X, (lkA v'.accts X).gone = decide (X ∈ p'.gone)) : VR rd v'.sx p' := by
  refine ⟨fun X => ?_, fun X => ?_, fun X => ?_, hw, hm, hg, fun X K hK => ?_, fun X K hK => ?_, fun X K hK => ?_, ?_, ?_⟩
  · show wn (lkA v'.accts X).bal = _; rw [hx.acY, ha]; split
    · rename_i e; rw [(hb _).1, e]; exact h.bal A
    · exact h.bal X
  · show (lkA v'.accts X).nonce = _; rw [hx.acY, ha]; split
    · rename_i e; rw [(hb _).2.1, e]; exact h.nonce A
    · exact h.nonce X
  · show rd (lkA v'.accts X).code = _; rw [hx.acY, ha]; split
    · rename_i e; rw [(hb _).2.2, e]; exact h.code A
    · exact h.code X
  · show wn (lkS v'.accts v'.slots X K).1 = _; rw [hx.sl, ha]; exact h.sval X K hK
  · show (lkS v'.accts v'.slots X K).2.2 = _; rw [hx.sl, hs]; exact h.swrm X K hK
  · show wn (lkT v'.accts v'.temps X K) = _; rw [hx.tp, ht]; exact h.temp X K hK
  · rw [hr]; exact hx.ref.trans h.ref
  · rw [hl]; exact hx.n.trans h.logs
theorem SetX.warmA {rd : SV → List Int} {v v' : V} {A : List Int} {p : PW} (hx : SetX v A (fun x => { x with warm := true }) v') (h : VR rd v.sx p) : VR rd v'.sx { p with warmA := ywith p.warmA A } := by
  refine hx.mark h (fun _ => ⟨rfl, rfl, rfl⟩) rfl rfl rfl rfl rfl (fun X => ?_) (fun X => ?_) (fun X => ?_)
  · show _ = decide (X ∈ ywith p.warmA A)
    rw [dec_or (mem_with p.warmA A X), hx.acY]; split
    · rename_i e; simp [e]
    · rename_i e; simp only [e, al_df, al_bof]; exact h.warm X
  · rw [hx.acY]; split
    · rename_i e; rw [e]; exact h.made A
    · exact h.made X
  · rw [hx.acY]; split
    · rename_i e; rw [e]; exact h.gone A
    · exact h.gone X
theorem SetX.markMade {rd : SV → List Int} {v v' : V} {A : List Int} {p : PW} (hx : SetX v A (fun x => { x with made := true }) v') (h : VR rd v.sx p) : VR rd v'.sx { p with made := ywith p.made A } := by
  refine hx.mark h (fun _ => ⟨rfl, rfl, rfl⟩) rfl rfl rfl rfl rfl (fun X => ?_) (fun X => ?_) (fun X => ?_)
  · rw [hx.acY]; split
    · rename_i e; rw [e]; exact h.warm A
    · exact h.warm X
  · show _ = decide (X ∈ ywith p.made A)
    rw [dec_or (mem_with p.made A X), hx.acY]; split
    · rename_i e; simp [e]
    · rename_i e; simp only [e, al_df, al_bof]; exact h.made X
  · rw [hx.acY]; split
    · rename_i e; rw [e]; exact h.gone A
    · exact h.gone X
theorem SetX.markGone {rd : SV → List Int} {v v' : V} {A : List Int} {p : PW} (hx : SetX v A (fun x => { x with gone := true }) v') (h : VR rd v.sx p) : VR rd v'.sx { p with gone := ywith p.gone A } := by
  refine hx.mark h (fun _ => ⟨rfl, rfl, rfl⟩) rfl rfl rfl rfl rfl (fun X => ?_) (fun X => ?_) (fun X => ?_)
  · rw [hx.acY]; split
    · rename_i e; rw [e]; exact h.warm A
    · exact h.warm X
  · rw [hx.acY]; split
    · rename_i e; rw [e]; exact h.made A
    · exact h.made X
  · show _ = decide (X ∈ ywith p.gone A)
    rw [dec_or (mem_with p.gone A X), hx.acY]; split
    · rename_i e; simp [e]
    · rename_i e; simp only [e, al_df, al_bof]; exact h.gone X
theorem SetY.store {rd : SV → List Int} {v v' : V} {A K n : List Int} {p : PW} (hx : SetY v A K (fun x => (n, x.2)) v') (hK : Wd K) (h : VR rd v.sx p) : VR rd v'.sx { p with accts := ystore p.accts A (wn K) (wn n) } := by
  refine ⟨fun X => ?_, fun X => ?_, fun X => ?_, fun X => ?_, fun X => ?_, fun X => ?_, fun X J hJ => ?_, fun X J hJ => ?_, fun X J hJ => ?_, ?_, ?_⟩
  · show wn (lkA v'.accts X).bal = (yacct (ystore _ _ _ _) X).bal; rw [hx.acY, yacct_store]; split
    · rename_i e; rw [e]; exact h.bal A
    · exact h.bal X
  · show (lkA v'.accts X).nonce = ((yacct (ystore _ _ _ _) X).nonce : Int); rw [hx.acY, yacct_store]; split
    · rename_i e; rw [e]; exact h.nonce A
    · exact h.nonce X
  · show rd (lkA v'.accts X).code = (yacct (ystore _ _ _ _) X).code; rw [hx.acY, yacct_store]; split
    · rename_i e; rw [e]; exact h.code A
    · exact h.code X
  · show (lkA v'.accts X).warm = _; rw [hx.acY]; exact h.warm X
  · show (lkA v'.accts X).made = _; rw [hx.acY]; exact h.made X
  · show (lkA v'.accts X).gone = _; rw [hx.acY]; exact h.gone X
  · show wn (lkS v'.accts v'.slots X J).1 = yload (ystore _ _ _ _) X _
    rw [hx.sl, yload_store]
    by_cases e : X = A ∧ J = K
    · rw [if_pos e, if_pos ⟨e.1, by rw [e.2]⟩]
    · rw [if_neg e, if_neg (fun e' => e ⟨e'.1, wn_inj hJ hK e'.2⟩)]; exact h.sval X J hJ
  · show (lkS v'.accts v'.slots X J).2.2 = _
    rw [hx.sl]; split
    · rename_i e; rw [e.1, e.2]; exact h.swrm A K hK
    · exact h.swrm X J hJ
  · show wn (lkT v'.accts v'.temps X J) = _; rw [hx.tp]; exact h.temp X J hJ
  · exact hx.ref.trans h.ref
  · exact hx.n.trans h.logs
theorem SetY.warmS {rd : SV → List Int} {v v' : V} {A K : List Int} {p : PW} (hx : SetY v A K (fun x => (x.1, x.2.1, true)) v') (hK : Wd K) (h : VR rd v.sx p) : VR rd v'.sx { p with warmS := ymk p.warmS A (wn K) } := by
  refine ⟨fun X => ?_, fun X => ?_, fun X => ?_, fun X => ?_, fun X => ?_, fun X => ?_, fun X J hJ => ?_, fun X J hJ => ?_, fun X J hJ => ?_, ?_, ?_⟩
  · show wn (lkA v'.accts X).bal = _; rw [hx.acY]; exact h.bal X
  · show (lkA v'.accts X).nonce = _; rw [hx.acY]; exact h.nonce X
  · show rd (lkA v'.accts X).code = _; rw [hx.acY]; exact h.code X
  · show (lkA v'.accts X).warm = _; rw [hx.acY]; exact h.warm X
  · show (lkA v'.accts X).made = _; rw [hx.acY]; exact h.made X
  · show (lkA v'.accts X).gone = _; rw [hx.acY]; exact h.gone X
  · show wn (lkS v'.accts v'.slots X J).1 = _
    rw [hx.sl]; split
    · rename_i e; rw [e.1, e.2]; exact h.sval A K hK
    · exact h.sval X J hJ
  · show (lkS v'.accts v'.slots X J).2.2 = decide ((X, wn J) ∈ ymk p.warmS A (wn K))
    rw [dec_or (mem_mk p.warmS A (wn K) (X, wn J)), hx.sl]; split
    · rename_i e; simp [e.1, e.2]
    · rename_i e
      have : ¬ ((X, wn J) = (A, wn K)) := fun e' => by simp only [Prod.mk.injEq] at e'; exact e ⟨e'.1, wn_inj hJ hK e'.2⟩
      simp only [this, al_df, al_bof]; exact h.swrm X J hJ
  · show wn (lkT v'.accts v'.temps X J) = _; rw [hx.tp]; exact h.temp X J hJ
  · exact hx.ref.trans h.ref
  · exact hx.n.trans h.logs
theorem SetZ.vr {rd : SV → List Int} {v v' : V} {p p' : PW} (hx : SetZ v v') (h : VR rd v.sx p) (h1 : p'.accts = p.accts) (h2 : p'.warmA = p.warmA) (h3 : p'.made = p.made) (h4 : p'.gone = p.gone) (h5 : p'.warmS = p.warmS)
    (ht : ∀ A K, Wd K → wn (lkT v'.accts v'.temps A K) = ytl p'.temps A (wn K)) (hr : v'.ref = (p'.ref : Int)) (hl : v'.logs.length = p'.nlogs) : VR rd v'.sx p' := by
  refine ⟨fun X => ?_, fun X => ?_, fun X => ?_, fun X => ?_, fun X => ?_, fun X => ?_, fun X K hK => ?_, fun X K hK => ?_, ht, hr, hl⟩
  · show wn (lkA v'.accts X).bal = _; rw [hx.acY, h1]; exact h.bal X
  · show (lkA v'.accts X).nonce = _; rw [hx.acY, h1]; exact h.nonce X
  · show rd (lkA v'.accts X).code = _; rw [hx.acY, h1]; exact h.code X
  · show (lkA v'.accts X).warm = _; rw [hx.acY, h2]; exact h.warm X
  · show (lkA v'.accts X).made = _; rw [hx.acY, h3]; exact h.made X
  · show (lkA v'.accts X).gone = _; rw [hx.acY, h4]; exact h.gone X
  · show wn (lkS v'.accts v'.slots X K).1 = _; rw [hx.acY, hx.sl, h1]; exact h.sval X K hK
  · show (lkS v'.accts v'.slots X K).2.2 = _; rw [hx.acY, hx.sl, h5]; exact h.swrm X K hK
theorem SetZ.temps {rd : SV → List Int} {v v' : V} {p : PW} (hx : SetZ v v') (h : VR rd v.sx p) (ht : v'.temps = v.temps) : ∀ A K, Wd K → wn (lkT v'.accts v'.temps A K) = ytl p.temps A (wn K) := fun A K hK => by rw [hx.acY, ht]; exact h.temp A K hK
end Go.Proofs.YgvacwGreat
