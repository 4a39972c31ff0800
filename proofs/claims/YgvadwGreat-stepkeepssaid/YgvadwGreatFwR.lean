import Derived.Test.YgvadwGreatFwQ
namespace Go.Proofs.YgvadwGreat
set_option linter.unusedSimpArgs false
set_option linter.unusedVariables false
/-! regions that draw: quiet operations first, then every order of the rest -/
section
variable {P : Program} {T : List TOp} {S : World → Prop} {Q : Post}
abbrev opsT (T : List TOp) : Array Oper := (T.map (·.1)).toArray
/-- every order of what is not listed -/
def WA (P : Program) (T : List TOp) (S : World → Prop) (Q : Post) : Nat → Array Bool → (Nat → Value) → World → Prop
  | 0, listed, ρ, w => Region.ready .any (opsT T) listed = [] ∧ Q .normal ρ w
  | f + 1, listed, ρ, w => (Region.ready .any (opsT T) listed = [] → Q .normal ρ w) ∧
      ∀ i ∈ Region.ready .any (opsT T) listed, ∀ x, T[i]? = some x → stepT P (opsT T) S x (WA P T S Q f (listed.setIfInBounds i true)) ρ w
/-- one after the other, and K behind them -/
def runsT (P : Program) (T : List TOp) (S : World → Prop) (K : (Nat → Value) → World → Prop) : List TOp → (Nat → Value) → World → Prop
  | [], ρ, w => K ρ w
  | x :: l, ρ, w => stepT P (opsT T) S x (runsT P T S K l) ρ w
theorem runsT_mono {K K' : (Nat → Value) → World → Prop} (hm : ∀ ρ w, K ρ w → K' ρ w) : ∀ l ρ w, runsT P T S K l ρ w → runsT P T S K' l ρ w
  | [], ρ, w, h => hm ρ w h
  | x :: l, ρ, w, h => stepT_mono (fun ρ w hh => runsT_mono hm l ρ w hh) h
theorem runsT_append {K : (Nat → Value) → World → Prop} : ∀ l l' ρ w, runsT P T S K (l ++ l') ρ w ↔ runsT P T S (runsT P T S K l') l ρ w
  | [], l', ρ, w => ⟨fun h => h, fun h => h⟩
  | x :: l, l', ρ, w => ⟨stepT_mono (fun ρ w hh => (runsT_append l l' ρ w).1 hh), stepT_mono (fun ρ w hh => (runsT_append l l' ρ w).2 hh)⟩
theorem runsT_swap {K : (Nat → Value) → World → Prop} {x : TOp} : ∀ l, (∀ y ∈ l, mayswap (opsT T) y x = true) → ∀ ρ w, runsT P T S (stepT P (opsT T) S x K) l ρ w → stepT P (opsT T) S x (runsT P T S K l) ρ w
  | [], _, ρ, w, h => h
  | y :: l, hs, ρ, w, h => swapK (hs y List.mem_cons_self) (stepT_mono (fun ρ w hh => runsT_swap l (fun z hz => hs z (List.mem_cons_of_mem _ hz)) ρ w hh) h)
theorem stepT_false {o : TOp} {ρ : Nat → Value} {w : World} (hq : loudOp o.1.op = false) (h : stepT P (opsT T) S o (fun _ _ => False) ρ w) : False := by
  obtain ⟨o, b⟩ := o
  simp only [stepT, WH0] at h
  split at h
  · simp only at hq
    rw [if_neg (by rw [hq]; decide)] at h
    obtain ⟨v, _, hf⟩ := h
    exact hf
  · exact h
theorem runsT_false : ∀ l, (∀ y ∈ l, loudOp y.1.op = false) → ∀ (ρ : Nat → Value) (w : World), runsT P T S (fun _ _ => False) l ρ w → False
  | [], _, ρ, w, h => h
  | y :: l, hs, ρ, w, h => stepT_false (hs y List.mem_cons_self) (stepT_mono (fun ρ w hh => runsT_false l (fun z hz => hs z (List.mem_cons_of_mem _ hz)) ρ w hh) h)
def markL (R : List Nat) (listed : Array Bool) : Array Bool := R.foldl (fun l i => l.setIfInBounds i true) listed
theorem markL_size : ∀ (R : List Nat) (l : Array Bool), (markL R l).size = l.size
  | [], l => rfl
  | i :: R, l => by show (markL R (l.setIfInBounds i true)).size = _; rw [markL_size R]; simp
theorem set_comm (l : Array Bool) (i j : Nat) : (l.setIfInBounds i true).setIfInBounds j true = (l.setIfInBounds j true).setIfInBounds i true := by
  by_cases h : i = j
  · subst h; rfl
  · exact Array.setIfInBounds_comm _ _ h
theorem markL_set : ∀ (R : List Nat) (l : Array Bool) (i : Nat), markL R (l.setIfInBounds i true) = (markL R l).setIfInBounds i true
  | [], l, i => rfl
  | j :: R, l, i => by
    show markL R ((l.setIfInBounds i true).setIfInBounds j true) = (markL R (l.setIfInBounds j true)).setIfInBounds i true
    rw [set_comm, markL_set R]
theorem markL_append (R R' : List Nat) (l : Array Bool) : markL (R ++ R') l = markL R' (markL R l) := by unfold markL; rw [List.foldl_append]
theorem getD_set {l : Array Bool} {i : Nat} (hi : i < l.size) (j : Nat) (d : Bool) : (l.setIfInBounds i true).getD j d = if j = i then true else l.getD j d := by
  by_cases hji : j = i
  · subst hji; simp [Array.getD, hi]
  · rw [if_neg hji]
    by_cases hjl : j < l.size
    · simp [Array.getD, hjl, Array.getElem_setIfInBounds_ne hjl (fun e => hji e.symm)]
    · simp [Array.getD, hjl]
theorem markL_get : ∀ (R : List Nat) (l : Array Bool), (∀ r ∈ R, r < l.size) → ∀ j d, (markL R l).getD j d = if j ∈ R then true else l.getD j d
  | [], l, _, j, d => by simp [markL]
  | i :: R, l, h, j, d => by
    show (markL R (l.setIfInBounds i true)).getD j d = _
    rw [markL_get R _ (fun r hr => by have := h r (List.mem_cons_of_mem _ hr); simpa using this), getD_set (h i List.mem_cons_self)]
    by_cases h1 : j ∈ R
    · simp [h1]
    · by_cases h2 : j = i
      · simp [h2]
      · simp [h1, h2]
theorem ready_mem {ops : Array Oper} {listed : Array Bool} {i : Nat} : i ∈ Region.ready .any ops listed ↔ i < ops.size ∧ listed.getD i true = false ∧ ∀ o, ops[i]? = some o → ∀ e ∈ o.after, Region.binds .any e = true → listed.getD e.on false = true := by
  unfold Region.ready
  rw [List.mem_filter, List.mem_range, Bool.and_eq_true]
  constructor
  · rintro ⟨h1, h2, h3⟩
    refine ⟨h1, by simpa using h2, fun o ho e he hb => ?_⟩
    rw [ho] at h3
    simp only [Option.map_some, Option.getD_some, Array.all_eq_true] at h3
    obtain ⟨m, hm, rfl⟩ := Array.mem_iff_getElem.1 he
    have := h3 m hm
    simpa [hb] using this
  · rintro ⟨h1, h2, h3⟩
    refine ⟨h1, by simpa using h2, ?_⟩
    have hx : ops[i]? = some ops[i] := by simp [h1]
    rw [hx]
    simp only [Option.map_some, Option.getD_some, Array.all_eq_true]
    intro m hm
    cases hb : Region.binds .any ops[i].after[m] with
    | false => simp
    | true => simp [h3 _ hx ops[i].after[m] (Array.getElem_mem hm) hb]
def chkN (T : List TOp) (R1 : List Nat) : Bool :=
  decide (R1.Pairwise (· < ·)) && (List.range T.length).all (fun j => chkOp (opsT T) j) &&
  R1.all fun y => Nat.ble (y + 1) T.length && (match T[y]? with
    | some z => !loudOp z.1.op && (List.range T.length).all fun i => (R1.contains i && Nat.ble i y) || (match T[i]? with | some x => mayswap (opsT T) z x || path (opsT T) 8 y i | none => false)
    | none => false)
structure ChkN (T : List TOp) (R1 : List Nat) : Prop where
  so : R1.Pairwise (· < ·)
  op : ∀ j, j < T.length → chkOp (opsT T) j = true
  lt : ∀ y ∈ R1, y < T.length
  q : ∀ y ∈ R1, ∀ z, T[y]? = some z → loudOp z.1.op = false
  sw : ∀ y ∈ R1, ∀ z, T[y]? = some z → ∀ i x, (i ∈ R1 → y < i) → T[i]? = some x → mayswap (opsT T) z x = true ∨ path (opsT T) 8 y i = true
theorem chkN_ok {T : List TOp} {R1 : List Nat} (h : chkN T R1 = true) : ChkN T R1 := by
  simp only [chkN, Bool.and_eq_true, List.all_eq_true, List.mem_range, al_ete] at h
  obtain ⟨⟨h1, h2⟩, h3⟩ := h
  refine ⟨h1, h2, fun y hy => Nat.le_of_ble_eq_true (h3 y hy).1, fun y hy z hz => ?_, fun y hy z hz i x hne hx => ?_⟩
  · have := (h3 y hy).2
    rw [hz] at this
    simp only [Bool.and_eq_true, Bool.not_eq_true'] at this
    exact this.1
  · have := (h3 y hy).2
    rw [hz] at this
    simp only [Bool.and_eq_true, List.all_eq_true, List.mem_range, Bool.or_eq_true, List.contains_iff_mem] at this
    have hi : i < T.length := al_ge hx
    rcases this.2 i hi with h | h
    · have h4 := Nat.le_of_ble_eq_true h.2
      have h5 := hne h.1
      omega
    · rw [hx] at h; simpa [Bool.or_eq_true] using h
def tops (T : List TOp) (R : List Nat) : List TOp := R.filterMap (fun i => T[i]?)
theorem tops_append (T : List TOp) (R R' : List Nat) : tops T (R ++ R') = tops T R ++ tops T R' := List.filterMap_append
theorem tops_cons {T : List TOp} {i : Nat} {x : TOp} (h : T[i]? = some x) (R : List Nat) : tops T (i :: R) = x :: tops T R := by unfold tops; rw [List.filterMap_cons, h]
theorem phaseN {R0 : List Nat} (hc : ChkN T R0) : ∀ (k : Nat) (R1 : List Nat) (f : Nat) (listed : Array Bool) (ρ : Nat → Value) (w : World), k = R1.length + f → R1.Sublist R0 → (∀ r ∈ R0, r ∈ R1 ∨ listed.getD r true = true) → listed.size = T.length → (∀ r ∈ R1, listed.getD r true = false) →
    (∀ j o, (opsT T)[j]? = some o → listed.getD j true = true → ∀ e ∈ o.after, Region.binds .any e = true → listed.getD e.on false = true) →
    runsT P T S (WA P T S Q f (markL R1 listed)) (tops T R1) ρ w → WA P T S Q k listed ρ w := by
  have hget : ∀ (i : Nat) (x : TOp), T[i]? = some x → (opsT T)[i]? = some x.1 := by
    intro i x hx; simp [opsT, hx]
  have hlen : (opsT T).size = T.length := by simp [opsT]
  intro k
  induction k with
  | zero =>
    intro R1 f listed ρ w hk hsb hcv hsz hu hcl h
    have e1 : R1 = [] := List.eq_nil_of_length_eq_zero (by omega)
    have e2 : f = 0 := by omega
    subst e1; subst e2; exact h
  | succ k ih =>
    intro R1 f listed ρ w hk hsb hcv hsz hu hcl h
    cases R1 with
    | nil =>
      have e2 : f = k + 1 := by simpa using hk.symm
      subst e2; exact h
    | cons r R =>
      have hrdy : Region.ready .any (opsT T) listed ≠ [] := by
        have hex : ∀ n j, j ≤ n → j < T.length → listed.getD j true = false → ∃ i, i ∈ Region.ready .any (opsT T) listed := by
          intro n
          induction n with
          | zero =>
            intro j hj hjT hjl
            refine ⟨j, ready_mem.2 ⟨by omega, hjl, fun o ho e he hb => ?_⟩⟩
            have hcj := hc.op j hjT
            simp only [chkOp, ho, Option.map_some, Option.getD_some, Array.all_eq_true] at hcj
            obtain ⟨m, hm, rfl⟩ := Array.mem_iff_getElem.1 he
            have := hcj m hm
            rw [hb] at this
            simp only [al_bnt, al_bfo] at this
            have := Nat.le_of_ble_eq_true this
            omega
          | succ n ihn =>
            intro j hj hjT hjl
            by_cases hall : ∀ o, (opsT T)[j]? = some o → ∀ e ∈ o.after, Region.binds .any e = true → listed.getD e.on false = true
            · exact ⟨j, ready_mem.2 ⟨by omega, hjl, hall⟩⟩
            · simp only [Classical.not_forall] at hall
              obtain ⟨o, ho, e, he, hb, hl⟩ := hall
              have hcj := hc.op j hjT
              simp only [chkOp, ho, Option.map_some, Option.getD_some, Array.all_eq_true] at hcj
              obtain ⟨m, hm, rfl⟩ := Array.mem_iff_getElem.1 he
              have := hcj m hm
              rw [hb] at this
              simp only [al_bnt, al_bfo] at this
              have hlt := Nat.le_of_ble_eq_true this
              refine ihn o.after[m].on (by omega) (by omega) ?_
              have hlt' : o.after[m].on < listed.size := by omega
              simp [Array.getD, hlt'] at hl ⊢; exact hl
        obtain ⟨i, hi⟩ := hex r r (Nat.le_refl _) (hc.lt r (hsb.mem List.mem_cons_self)) (hu r List.mem_cons_self)
        intro e; rw [e] at hi; cases hi
      refine ⟨fun e => absurd e hrdy, fun i hi x hx => ?_⟩
      obtain ⟨hiT, hil, hall⟩ := ready_mem.1 hi
      rw [hlen] at hiT
      have ho := hget i x hx
      have hall' := hall x.1 ho
      have hilt : i < listed.size := by omega
      have hnp : ∀ j, listed.getD j true = false → j < T.length → path (opsT T) 8 j i = false := by
        intro j hj hjT
        cases hp : path (opsT T) 8 j i with
        | false => rfl
        | true =>
          exfalso
          have := path_listed hcl 8 j i x.1 ho hall' hp
          have hlt : j < listed.size := by omega
          simp [Array.getD, hlt] at this hj
          rw [this] at hj; cases hj
      have hcl' : ∀ j o', (opsT T)[j]? = some o' → (listed.setIfInBounds i true).getD j true = true → ∀ e ∈ o'.after, Region.binds .any e = true → (listed.setIfInBounds i true).getD e.on false = true := by
        intro j o' ho' hl e he hb
        rw [getD_set hilt]
        split
        · rfl
        · rw [getD_set hilt] at hl
          by_cases hji : j = i
          · subst hji; rw [ho] at ho'; cases ho'; exact hall' e he hb
          · rw [if_neg hji] at hl; exact hcl j o' ho' hl e he hb
      have hswp : ∀ y ∈ (r :: R), (i ∈ R0 → y < i) → ∀ z, T[y]? = some z → mayswap (opsT T) z x = true := by
        intro y hy hne z hz
        rcases hc.sw y (hsb.mem hy) z hz i x hne hx with h1 | h1
        · exact h1
        · rw [hnp y (hu y hy) (hc.lt y (hsb.mem hy))] at h1; cases h1
      have hsm : ∀ R' : List Nat, (∀ y ∈ R', y ∈ (r :: R) ∧ (i ∈ R0 → y < i)) → ∀ z ∈ tops T R', mayswap (opsT T) z x = true := by
        intro R' hR' z hz
        unfold tops at hz
        rw [List.mem_filterMap] at hz
        obtain ⟨y, hy, hyz⟩ := hz
        exact hswp y (hR' y hy).1 (hR' y hy).2 z hyz
      by_cases hiR : i ∈ (r :: R)
      · obtain ⟨Ra, Rb, hRe⟩ := List.append_of_mem hiR
        rw [hRe] at h hk hu hsm hsb hcv
        have hnd := hc.so.sublist hsb
        rw [List.pairwise_append, List.pairwise_cons] at hnd
        have hRa' : ∀ y ∈ Ra, y < i := fun y hy => hnd.2.2 y hy i (by simp)
        have hRa : ∀ y ∈ Ra, y ≠ i := fun y hy e => by have := hRa' y hy; omega
        have hRb : ∀ y ∈ Rb, y ≠ i := fun y hy e => by have := hnd.2.1.1 y hy; omega
        rw [tops_append, tops_cons hx, runsT_append] at h
        have h2 := runsT_swap (tops T Ra) (hsm Ra (fun y hy => ⟨by simp [hy], fun _ => hRa' y hy⟩)) ρ w h
        refine stepT_mono (fun ρ w hh => ?_) h2
        refine ih (Ra ++ Rb) f _ ρ w (by simp at hk ⊢; omega) (((List.sublist_cons_self i Rb).append_left Ra).trans hsb) ?_ (by simp; exact hsz) ?_ hcl' ?_
        · intro y hy
          rw [getD_set hilt]
          by_cases hyi : y = i
          · right; rw [if_pos hyi]
          · rw [if_neg hyi]
            rcases hcv y hy with h1 | h1
            · left
              rcases List.mem_append.1 h1 with h1 | h1
              · exact List.mem_append_left _ h1
              · rcases List.mem_cons.1 h1 with h1 | h1
                · exact absurd h1 hyi
                · exact List.mem_append_right _ h1
            · exact Or.inr h1
        · intro y hy
          rw [getD_set hilt, if_neg (by rcases List.mem_append.1 hy with h1 | h1; exact hRa y h1; exact hRb y h1)]
          exact hu y (by rcases List.mem_append.1 hy with h1 | h1 <;> simp [h1])
        · rw [tops_append, runsT_append]
          have e : markL (Ra ++ Rb) (listed.setIfInBounds i true) = markL (Ra ++ i :: Rb) listed := by
            rw [markL_append, markL_append]
            show _ = markL Rb ((markL Ra listed).setIfInBounds i true)
            rw [markL_set]
          rw [e]; exact hh
      · have hrl : ∀ y ∈ (r :: R), y < listed.size := fun y hy => by have := hc.lt y (hsb.mem hy); omega
        have hi0 : i ∉ R0 := fun h0 => by
          rcases hcv i h0 with h1 | h1
          · exact hiR h1
          · rw [hil] at h1; cases h1
        have hi1 : i ∈ Region.ready .any (opsT T) (markL (r :: R) listed) := by
          refine ready_mem.2 ⟨by omega, ?_, fun o' ho' e he hb => ?_⟩
          · rw [markL_get _ _ hrl, if_neg hiR]; exact hil
          · rw [markL_get _ _ hrl]; split
            · rfl
            · exact hall o' ho' e he hb
        have hqs : ∀ y ∈ tops T (r :: R), loudOp y.1.op = false := by
          intro z hz
          unfold tops at hz
          rw [List.mem_filterMap] at hz
          obtain ⟨y, hy, hyz⟩ := hz
          exact hc.q y (hsb.mem hy) z hyz
        cases f with
        | zero =>
          exfalso
          refine runsT_false _ hqs ρ w (runsT_mono (fun ρ w hh => ?_) _ ρ w h)
          have := hh.1
          rw [this] at hi1; cases hi1
        | succ f =>
          have h1 := runsT_mono (K' := stepT P (opsT T) S x (WA P T S Q f ((markL (r :: R) listed).setIfInBounds i true))) (fun ρ w hh => hh.2 i hi1 x hx) _ ρ w h
          have h2 := runsT_swap (tops T (r :: R)) (hsm (r :: R) (fun y hy => ⟨hy, fun e => absurd e hi0⟩)) ρ w h1
          refine stepT_mono (fun ρ w hh => ?_) h2
          refine ih (r :: R) f _ ρ w (by simp at hk ⊢; omega) hsb ?_ (by simp; exact hsz) ?_ hcl' ?_
          · intro y hy
            rw [getD_set hilt]
            by_cases hyi : y = i
            · right; rw [if_pos hyi]
            · rw [if_neg hyi]; exact hcv y hy
          · intro y hy
            rw [getD_set hilt, if_neg (fun e => hiR (by rw [← e]; exact hy))]
            exact hu y hy
          · rw [markL_set]; exact hh
theorem WA_sound {n : Nat} (hd : dstsOK n (T.map (·.1)) = true) (ht : ∀ x ∈ T, x.2 = true) : ∀ (fuel : Nat) (listed : Array Bool) (ρ : Nat → Value) (w : World), Und n ρ → S w → WA P T S Q fuel listed ρ w → wpAny P .any (opsT T) (lift n Q) fuel listed (act n ρ) w := by
  intro fuel
  induction fuel with
  | zero =>
    intro listed ρ w hu hS h
    exact ⟨h.1, ⟨ρ, hu, rfl, h.2⟩⟩
  | succ fuel ih =>
    intro listed ρ w hu hS h
    refine ⟨fun hr => ⟨ρ, hu, rfl, h.1 hr⟩, fun i hi => ?_⟩
    have hiT : i < T.length := by have := (ready_mem.1 hi).1; simpa [opsT] using this
    have hx : T[i]? = some T[i] := by simp [hiT]
    have hbt : (T[i]).2 = true := ht _ (List.getElem_mem hiT)
    generalize T[i] = ob at hx hbt
    obtain ⟨o, bo⟩ := ob
    have hst := h.2 i hi _ hx
    have ho : (opsT T)[i]? = some o := by simp [opsT, hx]
    have hdst : ∀ d, o.dst = some d → d < n := by
      intro d hdd
      simp only [dstsOK, List.all_eq_true] at hd
      have := hd o (by rw [List.mem_map]; exact ⟨(o, bo), List.mem_of_getElem? hx, rfl⟩)
      rw [hdd] at this
      exact Nat.le_of_ble_eq_true this
    have hput : ∀ v, (act n ρ).put o.dst v = act n (updo ρ o.dst v) := by
      intro v
      cases hdd : o.dst with
      | none => rfl
      | some d => exact act_put v
    unfold wpOp
    rw [ho]
    simp only
    rw [wanted_eq _ o hu]
    simp only [stepT, WH0] at hst
    split
    · rename_i hw
      rw [if_pos hw] at hst
      left
      split at hst
      · rename_i hloud
        refine wp_of_stepo hu hdst (stepo_mono hst ?_)
        rintro v w' ⟨hSv, hr⟩
        exact ih _ _ _ (hu.updo hdst) (hSv hbt) hr
      · rename_i hloud
        obtain ⟨v, hv, hr⟩ := hst
        have hrun : (execOp (ev ρ) o).run P w = .ok (.value v) w := hv w (fun _ => hS)
        refine wp_of_stepo hu hdst ?_
        unfold stepo
        rw [hrun]
        exact ih _ _ _ (hu.updo hdst) hS hr
    · rename_i hw
      rw [if_neg hw] at hst
      rw [hput]
      exact ih _ _ _ (hu.updo hdst) hS hst
/-- the quiet operations R yet to run, then every order of the rest; f operations of the rest, D listed before them -/
structure NQ (P : Program) (T : List TOp) (S : World → Prop) (Q : Post) (f : Nat) (D : Array Bool) (R : List Nat) (ρ : Nat → Value) (w : World) : Prop where
  run : runsT P T S (WA P T S Q f D) (tops T R) ρ w
structure NA (P : Program) (T : List TOp) (S : World → Prop) (Q : Post) (f : Nat) (D : Array Bool) (ρ : Nat → Value) (w : World) : Prop where
  run : WA P T S Q f D ρ w
theorem W_drawN {P : Program} {n id : Nat} {Q : Post} {ops : List Oper} (tags : List Bool) (f : Nat) (R : List Nat) {ρ : Nat → Value} {w : World} (hm : P.follows .mixedOrders = true) (hchk : chkN (tz ops tags) R = true) (hf : Nat.beq (R.length + f) (tz ops tags).length = true) (ht : (tz ops tags).all (·.2) = true) (hd : dstsOK n ops = true)
    (h : NQ P (tz ops tags) (Ext w.drew) Q f (markL R (Array.replicate (tz ops tags).length false)) R ρ w.drew) : W P n (.region id ops.toArray true) Q ρ w := by
  generalize hT : tz ops tags = T at *
  have hTm : T.map (·.1) = ops := by rw [← hT]; exact tz_map ops tags
  subst hTm
  refine ⟨fun hu => wp_region_any hm ?_⟩
  have hsz : (T.map (·.1)).toArray.size = T.length := by simp
  rw [hsz]
  have hc := chkN_ok hchk
  have hk : T.length = R.length + f := (Nat.eq_of_beq_eq_true hf).symm
  refine WA_sound hd (by simpa using ht) T.length (Array.replicate T.length false) ρ w.drew hu (Ext.refl _) ?_
  refine phaseN hc T.length R f (Array.replicate T.length false) ρ w.drew hk (List.Sublist.refl R) (fun r hr => Or.inl hr) (by simp) (fun r hr => ?_) ?_ h.run
  · have := hc.lt r hr; simp [Array.getD, this]
  · intro j o ho hl
    have : j < T.length := by
      rcases Nat.lt_or_ge j T.length with h' | h'
      · exact h'
      · simp [opsT, List.getElem?_eq_none h'] at ho
    simp [Array.getD, this] at hl
end
section
variable {P : Program} {T : List TOp} {S : World → Prop} {Q : Post} {ρ : Nat → Value} {w : World} {D : Array Bool} {f i a b c : Nat} {os : List Nat} {x y z : TOp}
theorem N_q (hx : T[i]? = some x) (h : WH P (opsT T) S (fun _ ρ w => NQ P T S Q f D os ρ w) [x] ρ w) : NQ P T S Q f D (i :: os) ρ w := by
  refine ⟨?_⟩
  rw [tops_cons hx]
  exact stepT_mono (fun ρ w hh => hh.run) h.run
theorem N_go (h : NA P T S Q f D ρ w) : NQ P T S Q f D [] ρ w := ⟨h.run⟩
theorem N_end (hr : Region.ready .any (opsT T) D = []) (h : Q .normal ρ w) : NA P T S Q 0 D ρ w := ⟨⟨hr, h⟩⟩
theorem N_f1 (hr : Region.ready .any (opsT T) D = [a]) (hx : T[a]? = some x) (h : WH P (opsT T) S (fun _ ρ w => NA P T S Q f (D.setIfInBounds a true) ρ w) [x] ρ w) : NA P T S Q (f + 1) D ρ w := by
  refine ⟨⟨fun e => (by rw [hr] at e; cases e), fun i hi u hu => ?_⟩⟩
  rw [hr, List.mem_singleton] at hi; subst hi
  rw [hx] at hu; injection hu with hu; subst hu
  exact stepT_mono (fun ρ w hh => hh.run) h.run
theorem N_f2 (hr : Region.ready .any (opsT T) D = [a, b]) (hx : T[a]? = some x) (hy : T[b]? = some y) (h : WH P (opsT T) S (fun _ ρ w => NA P T S Q f (D.setIfInBounds a true) ρ w) [x] ρ w) (h2 : WH P (opsT T) S (fun _ ρ w => NA P T S Q f (D.setIfInBounds b true) ρ w) [y] ρ w) : NA P T S Q (f + 1) D ρ w := by
  refine ⟨⟨fun e => (by rw [hr] at e; cases e), fun i hi u hu => ?_⟩⟩
  rw [hr] at hi
  rcases List.mem_cons.1 hi with hi | hi
  · subst hi; rw [hx] at hu; injection hu with hu; subst hu
    exact stepT_mono (fun ρ w hh => hh.run) h.run
  · rw [List.mem_singleton] at hi; subst hi; rw [hy] at hu; injection hu with hu; subst hu
    exact stepT_mono (fun ρ w hh => hh.run) h2.run
theorem N_f3 (hr : Region.ready .any (opsT T) D = [a, b, c]) (hx : T[a]? = some x) (hy : T[b]? = some y) (hz : T[c]? = some z) (h : WH P (opsT T) S (fun _ ρ w => NA P T S Q f (D.setIfInBounds a true) ρ w) [x] ρ w) (h2 : WH P (opsT T) S (fun _ ρ w => NA P T S Q f (D.setIfInBounds b true) ρ w) [y] ρ w) (h3 : WH P (opsT T) S (fun _ ρ w => NA P T S Q f (D.setIfInBounds c true) ρ w) [z] ρ w) : NA P T S Q (f + 1) D ρ w := by
  refine ⟨⟨fun e => (by rw [hr] at e; cases e), fun i hi u hu => ?_⟩⟩
  rw [hr] at hi
  rcases List.mem_cons.1 hi with hi | hi
  · subst hi; rw [hx] at hu; injection hu with hu; subst hu
    exact stepT_mono (fun ρ w hh => hh.run) h.run
  · rcases List.mem_cons.1 hi with hi | hi
    · subst hi; rw [hy] at hu; injection hu with hu; subst hu
      exact stepT_mono (fun ρ w hh => hh.run) h2.run
    · rw [List.mem_singleton] at hi; subst hi; rw [hz] at hu; injection hu with hu; subst hu
      exact stepT_mono (fun ρ w hh => hh.run) h3.run
end
end Go.Proofs.YgvadwGreat
