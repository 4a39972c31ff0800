import Derived.Test.YgvadwGreatFwR
import Derived.Test.YgvadwGreatFwM
namespace Go.Proofs.YgvadwGreat
set_option linter.unusedSimpArgs false
set_option linter.unusedVariables false
/-! regions that draw: quiet operations first, then every order of the rest, each at the very world it meets -/
section
variable {P : Program} {T : List TOp} {S : World → Prop} {Q : Post} {ops : Array Oper}
def stepD (P : Program) (ops : Array Oper) (S : World → Prop) (o : TOp) (K : (Nat → Value) → World → Prop) (ρ : Nat → Value) (w : World) : Prop :=
  if wanted ops o.1 ρ then
    if loudOp o.1.op then stepo P o.1 ρ w (fun v w' => (o.2 = true → S w') ∧ K (updo ρ o.1.dst v) w')
    else ∃ v, (execOp (ev ρ) o.1).run P w = .ok (.value v) w ∧ K (updo ρ o.1.dst v) w
  else K (updo ρ o.1.dst undef) w
theorem stepD_of {o : TOp} {K K' : (Nat → Value) → World → Prop} {ρ : Nat → Value} {w : World} (hS : S w) (ht : loudOp o.1.op = true → o.2 = true) (hm : ∀ ρ w, S w → K ρ w → K' ρ w) (h : stepT P ops S o K ρ w) : stepD P ops S o K' ρ w := by
  obtain ⟨o, b⟩ := o
  simp only [stepT, WH0] at h
  simp only [stepD]
  simp only at ht
  split
  · rename_i hw; rw [if_pos hw] at h
    split
    · rename_i hl; rw [if_pos hl] at h
      exact stepo_mono h fun v w' ⟨hS', hr⟩ => ⟨hS', hm _ _ (hS' (ht hl)) hr⟩
    · rename_i hl; rw [if_neg hl] at h
      obtain ⟨v, hv, hr⟩ := h
      exact ⟨v, hv w (fun _ => hS), hm _ _ hS hr⟩
  · rename_i hw; rw [if_neg hw] at h; exact hm _ _ hS h
theorem stepD_monoS {o : TOp} {K K' : (Nat → Value) → World → Prop} {ρ : Nat → Value} {w : World} (hS : S w) (ht : loudOp o.1.op = true → o.2 = true) (hm : ∀ ρ w, S w → K ρ w → K' ρ w) (h : stepD P ops S o K ρ w) : stepD P ops S o K' ρ w := by
  obtain ⟨o, b⟩ := o
  simp only [stepD] at h ⊢
  simp only at ht
  split
  · rename_i hw; rw [if_pos hw] at h
    split
    · rename_i hl; rw [if_pos hl] at h
      exact stepo_mono h fun v w' ⟨hS', hr⟩ => ⟨hS', hm _ _ (hS' (ht hl)) hr⟩
    · rename_i hl; rw [if_neg hl] at h
      obtain ⟨v, hv, hr⟩ := h
      exact ⟨v, hv, hm _ _ hS hr⟩
  · rename_i hw; rw [if_neg hw] at h; exact hm _ _ hS h
theorem stepD_loud {o : TOp} {K : (Nat → Value) → World → Prop} {ρ : Nat → Value} {w : World} (hl : loudOp o.1.op = true) : stepD P ops S o K ρ w = stepT P ops S o K ρ w := by
  obtain ⟨o, b⟩ := o
  simp only at hl
  simp only [stepD, stepT, WH0, hl, if_true]
theorem swapD {o x : TOp} {K : (Nat → Value) → World → Prop} {ρ : Nat → Value} {w : World} (hq : loudOp o.1.op = false) (hm : mayswap ops o x = true) (h : stepT P ops S o (stepD P ops S x K) ρ w) : stepD P ops S x (stepT P ops S o K) ρ w := by
  cases Lx : loudOp x.1.op with
  | true =>
    rw [stepD_loud Lx]
    exact swapK hm (stepT_mono (fun ρ w hh => by rwa [stepD_loud Lx] at hh) h)
  | false =>
    obtain ⟨o, bo⟩ := o
    obtain ⟨x, bx⟩ := x
    simp only at hq Lx
    simp only [mayswap, Bool.and_eq_true, Bool.not_eq_true'] at hm
    obtain ⟨⟨⟨⟨⟨hap, hl⟩, hso⟩, hsx⟩, hb1⟩, hb2⟩ := hm
    obtain ⟨h1, h2, h3⟩ := Oper.apart_spec hap
    have hso' : ∀ cs b, o.op ≠ .select cs b := fun cs b e => by rw [e] at hso; cases hso
    have hsx' : ∀ cs b, x.op ≠ .select cs b := fun cs b e => by rw [e] at hsx; cases hsx
    have hc : ∀ v u, updo (updo ρ o.dst v) x.dst u = updo (updo ρ x.dst u) o.dst v := fun v u => updo_comm ρ o.dst x.dst v u h2
    have wx : ∀ v, wanted ops x (updo ρ o.dst v) = wanted ops x ρ := fun v => wanted_updo h1
    have wo : ∀ u, wanted ops o (updo ρ x.dst u) = wanted ops o ρ := fun u => wanted_updo h3
    have ex : ∀ v, execOp (ev (updo ρ o.dst v)) x = execOp (ev ρ) x := fun v => execOp_updo (ops := ops) hsx' h1
    have eo : ∀ u, execOp (ev (updo ρ x.dst u)) o = execOp (ev ρ) o := fun u => execOp_updo (ops := ops) hso' h3
    simp only [stepT, WH0, stepD, hq, Lx, Bool.false_eq_true, al_i0] at h ⊢
    by_cases Wo : wanted ops o ρ = true
    · rw [if_pos Wo] at h
      obtain ⟨v, hv, h⟩ := h
      rw [wx] at h
      by_cases Wx : wanted ops x ρ = true
      · rw [if_pos Wx] at h ⊢
        obtain ⟨u, hu, hr⟩ := h
        rw [ex] at hu
        refine ⟨u, hu, ?_⟩
        rw [wo, if_pos Wo]
        exact ⟨v, fun w' hw' => by rw [eo]; exact hv w' hw', by rw [← hc]; exact hr⟩
      · rw [if_neg Wx] at h ⊢
        rw [wo, if_pos Wo]
        exact ⟨v, fun w' hw' => by rw [eo]; exact hv w' hw', by rw [← hc]; exact h⟩
    · rw [if_neg Wo, wx] at h
      by_cases Wx : wanted ops x ρ = true
      · rw [if_pos Wx] at h ⊢
        obtain ⟨u, hu, hr⟩ := h
        rw [ex] at hu
        refine ⟨u, hu, ?_⟩
        rw [wo, if_neg Wo, ← hc]; exact hr
      · rw [if_neg Wx] at h ⊢
        rw [wo, if_neg Wo, ← hc]; exact h
theorem runsT_swapD {K : (Nat → Value) → World → Prop} {x : TOp} : ∀ l, (∀ y ∈ l, loudOp y.1.op = false) → (∀ y ∈ l, mayswap (opsT T) y x = true) → ∀ ρ w, runsT P T S (stepD P (opsT T) S x K) l ρ w → stepD P (opsT T) S x (runsT P T S K l) ρ w
  | [], _, _, ρ, w, h => h
  | y :: l, hq, hs, ρ, w, h => swapD (hq y List.mem_cons_self) (hs y List.mem_cons_self) (stepT_mono (fun ρ w hh => runsT_swapD l (fun z hz => hq z (List.mem_cons_of_mem _ hz)) (fun z hz => hs z (List.mem_cons_of_mem _ hz)) ρ w hh) h)
/-- every order of what is not listed -/
def WD (P : Program) (T : List TOp) (S : World → Prop) (Q : Post) : Nat → Array Bool → (Nat → Value) → World → Prop
  | 0, listed, ρ, w => Region.ready .any (opsT T) listed = [] ∧ Q .normal ρ w
  | f + 1, listed, ρ, w => (Region.ready .any (opsT T) listed = [] → Q .normal ρ w) ∧
      ∀ i ∈ Region.ready .any (opsT T) listed, ∀ x, T[i]? = some x → stepD P (opsT T) S x (WD P T S Q f (listed.setIfInBounds i true)) ρ w
theorem phaseD {R0 : List Nat} (hc : ChkN T R0) (ht : ∀ x ∈ T, x.2 = true) : ∀ (k : Nat) (R1 : List Nat) (f : Nat) (listed : Array Bool) (ρ : Nat → Value) (w : World), k = R1.length + f → R1.Sublist R0 → (∀ r ∈ R0, r ∈ R1 ∨ listed.getD r true = true) → listed.size = T.length → (∀ r ∈ R1, listed.getD r true = false) →
    (∀ j o, (opsT T)[j]? = some o → listed.getD j true = true → ∀ e ∈ o.after, Region.binds .any e = true → listed.getD e.on false = true) → S w →
    runsT P T S (WD P T S Q f (markL R1 listed)) (tops T R1) ρ w → WD P T S Q k listed ρ w := by
  have hget : ∀ (i : Nat) (x : TOp), T[i]? = some x → (opsT T)[i]? = some x.1 := by
    intro i x hx; simp [opsT, hx]
  have hlen : (opsT T).size = T.length := by simp [opsT]
  intro k
  induction k with
  | zero =>
    intro R1 f listed ρ w hk hsb hcv hsz hu hcl hSw h
    have e1 : R1 = [] := List.eq_nil_of_length_eq_zero (by omega)
    have e2 : f = 0 := by omega
    subst e1; subst e2; exact h
  | succ k ih =>
    intro R1 f listed ρ w hk hsb hcv hsz hu hcl hSw h
    cases R1 with
    | nil =>
      have e2 : f = k + 1 := by simpa using hk.symm
      subst e2; exact h
    | cons r R =>
      have hrdy : Region.ready .any (opsT T) listed ≠ [] := by
        have hex : ∀ n j, j ≤ n → j < T.length → listed.getD j true = false → ∃ i, i ∈ Region.ready .any (opsT T) listed := by
          intro n
          induction n with
          | zero =>
            intro j hj hjT hjl
            refine ⟨j, ready_mem.2 ⟨by omega, hjl, fun o ho e he hb => ?_⟩⟩
            have hcj := hc.op j hjT
            simp only [chkOp, ho, Option.map_some, Option.getD_some, Array.all_eq_true] at hcj
            obtain ⟨m, hm, rfl⟩ := Array.mem_iff_getElem.1 he
            have := hcj m hm
            rw [hb] at this
            simp only [al_bnt, al_bfo] at this
            have := Nat.le_of_ble_eq_true this
            omega
          | succ n ihn =>
            intro j hj hjT hjl
            by_cases hall : ∀ o, (opsT T)[j]? = some o → ∀ e ∈ o.after, Region.binds .any e = true → listed.getD e.on false = true
            · exact ⟨j, ready_mem.2 ⟨by omega, hjl, hall⟩⟩
            · simp only [Classical.not_forall] at hall
              obtain ⟨o, ho, e, he, hb, hl⟩ := hall
              have hcj := hc.op j hjT
              simp only [chkOp, ho, Option.map_some, Option.getD_some, Array.all_eq_true] at hcj
              obtain ⟨m, hm, rfl⟩ := Array.mem_iff_getElem.1 he
              have := hcj m hm
              rw [hb] at this
              simp only [al_bnt, al_bfo] at this
              have hlt := Nat.le_of_ble_eq_true this
              refine ihn o.after[m].on (by omega) (by omega) ?_
              have hlt' : o.after[m].on < listed.size := by omega
              simp [Array.getD, hlt'] at hl ⊢; exact hl
        obtain ⟨i, hi⟩ := hex r r (Nat.le_refl _) (hc.lt r (hsb.mem List.mem_cons_self)) (hu r List.mem_cons_self)
        intro e; rw [e] at hi; cases hi
      refine ⟨fun e => absurd e hrdy, fun i hi x hx => ?_⟩
      obtain ⟨hiT, hil, hall⟩ := ready_mem.1 hi
      rw [hlen] at hiT
      have ho := hget i x hx
      have hall' := hall x.1 ho
      have hilt : i < listed.size := by omega
      have hnp : ∀ j, listed.getD j true = false → j < T.length → path (opsT T) 8 j i = false := by
        intro j hj hjT
        cases hp : path (opsT T) 8 j i with
        | false => rfl
        | true =>
          exfalso
          have := path_listed hcl 8 j i x.1 ho hall' hp
          have hlt : j < listed.size := by omega
          simp [Array.getD, hlt] at this hj
          rw [this] at hj; cases hj
      have hcl' : ∀ j o', (opsT T)[j]? = some o' → (listed.setIfInBounds i true).getD j true = true → ∀ e ∈ o'.after, Region.binds .any e = true → (listed.setIfInBounds i true).getD e.on false = true := by
        intro j o' ho' hl e he hb
        rw [getD_set hilt]
        split
        · rfl
        · rw [getD_set hilt] at hl
          by_cases hji : j = i
          · subst hji; rw [ho] at ho'; cases ho'; exact hall' e he hb
          · rw [if_neg hji] at hl; exact hcl j o' ho' hl e he hb
      have hswp : ∀ y ∈ (r :: R), (i ∈ R0 → y < i) → ∀ z, T[y]? = some z → mayswap (opsT T) z x = true := by
        intro y hy hne z hz
        rcases hc.sw y (hsb.mem hy) z hz i x hne hx with h1 | h1
        · exact h1
        · rw [hnp y (hu y hy) (hc.lt y (hsb.mem hy))] at h1; cases h1
      have hsm : ∀ R' : List Nat, (∀ y ∈ R', y ∈ (r :: R) ∧ (i ∈ R0 → y < i)) → ∀ z ∈ tops T R', mayswap (opsT T) z x = true := by
        intro R' hR' z hz
        unfold tops at hz
        rw [List.mem_filterMap] at hz
        obtain ⟨y, hy, hyz⟩ := hz
        exact hswp y (hR' y hy).1 (hR' y hy).2 z hyz
      by_cases hiR : i ∈ (r :: R)
      · obtain ⟨Ra, Rb, hRe⟩ := List.append_of_mem hiR
        rw [hRe] at h hk hu hsm hsb hcv
        have hnd := hc.so.sublist hsb
        rw [List.pairwise_append, List.pairwise_cons] at hnd
        have hRa' : ∀ y ∈ Ra, y < i := fun y hy => hnd.2.2 y hy i (by simp)
        have hRa : ∀ y ∈ Ra, y ≠ i := fun y hy e => by have := hRa' y hy; omega
        have hRb : ∀ y ∈ Rb, y ≠ i := fun y hy e => by have := hnd.2.1.1 y hy; omega
        rw [tops_append, tops_cons hx, runsT_append] at h
        have h2 := runsT_swap (tops T Ra) (hsm Ra (fun y hy => ⟨by simp [hy], fun _ => hRa' y hy⟩)) ρ w h
        refine stepD_of hSw (fun _ => ht x (List.mem_of_getElem? hx)) (fun ρ w hSw hh => ?_) h2
        refine ih (Ra ++ Rb) f _ ρ w (by simp at hk ⊢; omega) (((List.sublist_cons_self i Rb).append_left Ra).trans hsb) ?_ (by simp; exact hsz) ?_ hcl' hSw ?_
        · intro y hy
          rw [getD_set hilt]
          by_cases hyi : y = i
          · right; rw [if_pos hyi]
          · rw [if_neg hyi]
            rcases hcv y hy with h1 | h1
            · left
              rcases List.mem_append.1 h1 with h1 | h1
              · exact List.mem_append_left _ h1
              · rcases List.mem_cons.1 h1 with h1 | h1
                · exact absurd h1 hyi
                · exact List.mem_append_right _ h1
            · exact Or.inr h1
        · intro y hy
          rw [getD_set hilt, if_neg (by rcases List.mem_append.1 hy with h1 | h1; exact hRa y h1; exact hRb y h1)]
          exact hu y (by rcases List.mem_append.1 hy with h1 | h1 <;> simp [h1])
        · rw [tops_append, runsT_append]
          have e : markL (Ra ++ Rb) (listed.setIfInBounds i true) = markL (Ra ++ i :: Rb) listed := by
            rw [markL_append, markL_append]
            show _ = markL Rb ((markL Ra listed).setIfInBounds i true)
            rw [markL_set]
          rw [e]; exact hh
      · have hrl : ∀ y ∈ (r :: R), y < listed.size := fun y hy => by have := hc.lt y (hsb.mem hy); omega
        have hi0 : i ∉ R0 := fun h0 => by
          rcases hcv i h0 with h1 | h1
          · exact hiR h1
          · rw [hil] at h1; cases h1
        have hi1 : i ∈ Region.ready .any (opsT T) (markL (r :: R) listed) := by
          refine ready_mem.2 ⟨by omega, ?_, fun o' ho' e he hb => ?_⟩
          · rw [markL_get _ _ hrl, if_neg hiR]; exact hil
          · rw [markL_get _ _ hrl]; split
            · rfl
            · exact hall o' ho' e he hb
        have hqs : ∀ y ∈ tops T (r :: R), loudOp y.1.op = false := by
          intro z hz
          unfold tops at hz
          rw [List.mem_filterMap] at hz
          obtain ⟨y, hy, hyz⟩ := hz
          exact hc.q y (hsb.mem hy) z hyz
        cases f with
        | zero =>
          exfalso
          refine runsT_false _ hqs ρ w (runsT_mono (fun ρ w hh => ?_) _ ρ w h)
          have := hh.1
          rw [this] at hi1; cases hi1
        | succ f =>
          have h1 := runsT_mono (K' := stepD P (opsT T) S x (WD P T S Q f ((markL (r :: R) listed).setIfInBounds i true))) (fun ρ w hh => hh.2 i hi1 x hx) _ ρ w h
          have h2 := runsT_swapD (tops T (r :: R)) hqs (hsm (r :: R) (fun y hy => ⟨hy, fun e => absurd e hi0⟩)) ρ w h1
          refine stepD_monoS hSw (fun _ => ht x (List.mem_of_getElem? hx)) (fun ρ w hSw hh => ?_) h2
          refine ih (r :: R) f _ ρ w (by simp at hk ⊢; omega) hsb ?_ (by simp; exact hsz) ?_ hcl' hSw ?_
          · intro y hy
            rw [getD_set hilt]
            by_cases hyi : y = i
            · right; rw [if_pos hyi]
            · rw [if_neg hyi]; exact hcv y hy
          · intro y hy
            rw [getD_set hilt, if_neg (fun e => hiR (by rw [← e]; exact hy))]
            exact hu y hy
          · rw [markL_set]; exact hh
theorem WD_sound {n : Nat} (hd : dstsOK n (T.map (·.1)) = true) : ∀ (fuel : Nat) (listed : Array Bool) (ρ : Nat → Value) (w : World), Und n ρ → WD P T S Q fuel listed ρ w → wpAny P .any (opsT T) (lift n Q) fuel listed (act n ρ) w := by
  intro fuel
  induction fuel with
  | zero =>
    intro listed ρ w hu h
    exact ⟨h.1, ⟨ρ, hu, rfl, h.2⟩⟩
  | succ fuel ih =>
    intro listed ρ w hu h
    refine ⟨fun hr => ⟨ρ, hu, rfl, h.1 hr⟩, fun i hi => ?_⟩
    have hiT : i < T.length := by have := (ready_mem.1 hi).1; simpa [opsT] using this
    have hx : T[i]? = some T[i] := by simp [hiT]
    generalize T[i] = ob at hx
    obtain ⟨o, bo⟩ := ob
    have hst := h.2 i hi _ hx
    have ho : (opsT T)[i]? = some o := by simp [opsT, hx]
    have hdst : ∀ d, o.dst = some d → d < n := by
      intro d hdd
      simp only [dstsOK, List.all_eq_true] at hd
      have := hd o (by rw [List.mem_map]; exact ⟨(o, bo), List.mem_of_getElem? hx, rfl⟩)
      rw [hdd] at this
      exact Nat.le_of_ble_eq_true this
    have hput : ∀ v, (act n ρ).put o.dst v = act n (updo ρ o.dst v) := by
      intro v
      cases hdd : o.dst with
      | none => rfl
      | some d => exact act_put v
    unfold wpOp
    rw [ho]
    simp only
    rw [wanted_eq _ o hu]
    simp only [stepD] at hst
    split
    · rename_i hw
      rw [if_pos hw] at hst
      left
      split at hst
      · rename_i hloud
        refine wp_of_stepo hu hdst (stepo_mono hst ?_)
        rintro v w' ⟨hSv, hr⟩
        exact ih _ _ _ (hu.updo hdst) hr
      · rename_i hloud
        obtain ⟨v, hrun, hr⟩ := hst
        refine wp_of_stepo hu hdst ?_
        unfold stepo
        rw [hrun]
        exact ih _ _ _ (hu.updo hdst) hr
    · rename_i hw
      rw [if_neg hw] at hst
      rw [hput]
      exact ih _ _ _ (hu.updo hdst) hst
/-- the quiet operations R yet to run, then every order of the rest; f operations of the rest, D listed before them -/
structure DQ (P : Program) (T : List TOp) (S : World → Prop) (Q : Post) (f : Nat) (D : Array Bool) (R : List Nat) (ρ : Nat → Value) (w : World) : Prop where
  run : runsT P T S (WD P T S Q f D) (tops T R) ρ w
structure DA (P : Program) (T : List TOp) (S : World → Prop) (Q : Post) (f : Nat) (D : Array Bool) (ρ : Nat → Value) (w : World) : Prop where
  run : WD P T S Q f D ρ w
theorem W_drawD {P : Program} {n id : Nat} {Q : Post} {ops : List Oper} (tags : List Bool) (f : Nat) (R : List Nat) {ρ : Nat → Value} {w : World} (S : World → Prop) (hm : P.follows .mixedOrders = true) (hchk : chkN (tz ops tags) R = true) (hf : Nat.beq (R.length + f) (tz ops tags).length = true) (ht : (tz ops tags).all (·.2) = true) (hd : dstsOK n ops = true) (hS : S w.drew)
    (h : DQ P (tz ops tags) S Q f (markL R (Array.replicate (tz ops tags).length false)) R ρ w.drew) : W P n (.region id ops.toArray true) Q ρ w := by
  generalize hT : tz ops tags = T at *
  have hTm : T.map (·.1) = ops := by rw [← hT]; exact tz_map ops tags
  subst hTm
  refine ⟨fun hu => wp_region_any hm ?_⟩
  have hsz : (T.map (·.1)).toArray.size = T.length := by simp
  rw [hsz]
  have hc := chkN_ok hchk
  have hk : T.length = R.length + f := (Nat.eq_of_beq_eq_true hf).symm
  refine WD_sound (S := S) hd T.length (Array.replicate T.length false) ρ w.drew hu ?_
  refine phaseD hc (by simpa using ht) T.length R f (Array.replicate T.length false) ρ w.drew hk (List.Sublist.refl R) (fun r hr => Or.inl hr) (by simp) (fun r hr => ?_) ?_ hS h.run
  · have := hc.lt r hr; simp [Array.getD, this]
  · intro j o ho hl
    have : j < T.length := by
      rcases Nat.lt_or_ge j T.length with h' | h'
      · exact h'
      · simp [opsT, List.getElem?_eq_none h'] at ho
    simp [Array.getD, this] at hl
end
section
variable {P : Program} {T : List TOp} {S : World → Prop} {Q : Post} {f i a : Nat} {D : Array Bool} {os : List Nat} {x : TOp} {ρ : Nat → Value} {w : World}
theorem D_q (hx : T[i]? = some x) (h : WH P (opsT T) S (fun _ ρ w => DQ P T S Q f D os ρ w) [x] ρ w) : DQ P T S Q f D (i :: os) ρ w := by
  refine ⟨?_⟩
  rw [tops_cons hx]
  exact stepT_mono (fun ρ w hh => hh.run) h.run
theorem D_go (h : DA P T S Q f D ρ w) : DQ P T S Q f D [] ρ w := ⟨h.run⟩
theorem D_end (hr : Region.ready .any (opsT T) D = []) (h : Q .normal ρ w) : DA P T S Q 0 D ρ w := ⟨⟨hr, h⟩⟩
/-- a loud one -/
theorem D_l (hr : Region.ready .any (opsT T) D = [a]) (hx : T[a]? = some x) (hl : loudOp x.1.op = true) (h : WH P (opsT T) S (fun _ ρ w => DA P T S Q f (D.setIfInBounds a true) ρ w) [x] ρ w) : DA P T S Q (f + 1) D ρ w := by
  refine ⟨⟨fun e => (by rw [hr] at e; cases e), fun i hi u hu => ?_⟩⟩
  rw [hr, List.mem_singleton] at hi; subst hi
  rw [hx] at hu; injection hu with hu; subst hu
  rw [stepD_loud hl]
  exact stepT_mono (fun ρ w hh => hh.run) h.run
/-- a quiet one, at this very world -/
theorem D_c (hr : Region.ready .any (opsT T) D = [a]) (hx : T[a]? = some x) (hl : loudOp x.1.op = false) (h : WH P (opsT T) (fun w' => w' = w) (fun _ ρ w => DA P T S Q f (D.setIfInBounds a true) ρ w) [x] ρ w) : DA P T S Q (f + 1) D ρ w := by
  refine ⟨⟨fun e => (by rw [hr] at e; cases e), fun i hi u hu => ?_⟩⟩
  rw [hr, List.mem_singleton] at hi; subst hi
  rw [hx] at hu; injection hu with hu; subst hu
  have h1 := h.run
  obtain ⟨o, b⟩ := x
  simp only at hl
  simp only [WH0] at h1
  simp only [stepD]
  split
  · rename_i hw; rw [if_pos hw] at h1
    simp only [hl, Bool.false_eq_true, al_i0] at h1 ⊢
    obtain ⟨v, hv, hr⟩ := h1
    exact ⟨v, hv w (fun _ => rfl), hr.run⟩
  · rename_i hw; rw [if_neg hw] at h1; exact h1.run
end
section
variable {P : Program} {ops : Array Oper} {Q : Post} {d : Nat} {t yt ty : TypeId} {pos : String} {af : Array Edge} {os : List TOp} {ρ : Nat → Value} {w : World} {x y : Operand} {bb : Bool}
theorem WH_loadE {w0 : World} {b o : Nat} {c : Array Value} {T : TypeId} {fz : Nat × Nat} (v : Value) (hA : ∀ w, (isAgg t).run P w = .ok false w) (hx : ev ρ x = .pointer (some ⟨b, o, none⟩)) (hb : hp w0 b = some (.cells c T fz)) (hc : c[o]? = some v)
    (h : WH P ops (fun w' => w' = w0) Q os (upd ρ d v) w) : WH P ops (fun w' => w' = w0) Q ((⟨some d, .load t x, ty, pos, af, none⟩, bb) :: os) ρ w :=
  WH_load0 v hA hx (fun w' hw => by rw [hw]; exact ⟨c, T, fz, hb, hc⟩) h
theorem WH_loadAE {w0 : World} {b o k : Nat} {c : Array Value} {T : TypeId} {fz : Nat × Nat} (cs : Array Value) (hA : ∀ w, (isAgg t).run P w = .ok true w) (hS : ∀ w, (Go.sizeOf t).run P w = .ok k w)
    (hx : ev ρ x = .pointer (some ⟨b, o, none⟩)) (hb : hp w0 b = some (.cells c T fz)) (hk : o + k ≤ c.size) (hc : c.extract o (o + k) = cs) (h : WH P ops (fun w' => w' = w0) Q os (upd ρ d (.agg cs)) w) :
    WH P ops (fun w' => w' = w0) Q ((⟨some d, .load t x, ty, pos, af, none⟩, bb) :: os) ρ w :=
  WH_loadA0 cs hA hS hx (fun w' hw => by rw [hw]; exact ⟨c, T, fz, hb, hk, hc⟩) h
end
end Go.Proofs.YgvadwGreat
