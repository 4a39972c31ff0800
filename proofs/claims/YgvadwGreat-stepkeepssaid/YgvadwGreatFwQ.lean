import Derived.Test.YgvadwGreatFwP
namespace Go.Proofs.YgvadwGreat
set_option linter.unusedSimpArgs false
set_option linter.unusedVariables false
/-! regions that draw, with operations that may come at any timeY (allocations) -/
section
variable {P : Program} {ops : Array Oper} {S : World → Prop}
/-- one operation, and K behind it -/
def stepT (P : Program) (ops : Array Oper) (S : World → Prop) (o : TOp) (K : (Nat → Value) → World → Prop) (ρ : Nat → Value) (w : World) : Prop := WH0 P ops S (fun _ ρ w => K ρ w) [o] ρ w
theorem stepT_mono {o : TOp} {K K' : (Nat → Value) → World → Prop} {ρ : Nat → Value} {w : World} (hm : ∀ ρ w, K ρ w → K' ρ w) (h : stepT P ops S o K ρ w) : stepT P ops S o K' ρ w := by
  obtain ⟨o, b⟩ := o
  simp only [stepT, WH0] at h ⊢
  split
  · rename_i hw; rw [if_pos hw] at h
    split
    · rename_i hl; rw [if_pos hl] at h
      exact stepo_mono h fun v w' ⟨hS, hr⟩ => ⟨hS, hm _ _ hr⟩
    · rename_i hl; rw [if_neg hl] at h
      obtain ⟨v, hv, hr⟩ := h
      exact ⟨v, hv, hm _ _ hr⟩
  · rename_i hw; rw [if_neg hw] at h; exact hm _ _ h
theorem WH0_stepT {Q : Post} {o : TOp} {os : List TOp} {ρ : Nat → Value} {w : World} : WH0 P ops S Q (o :: os) ρ w ↔ stepT P ops S o (WH0 P ops S Q os) ρ w := by
  obtain ⟨o, b⟩ := o
  exact ⟨fun h => h, fun h => h⟩
theorem swapK {o x : TOp} {K : (Nat → Value) → World → Prop} {ρ : Nat → Value} {w : World} (hm : mayswap ops o x = true) (h : stepT P ops S o (stepT P ops S x K) ρ w) : stepT P ops S x (stepT P ops S o K) ρ w :=
  swap (Q := fun _ ρ w => K ρ w) (os := []) hm h
/-- A quiet operation comes to one value: what it comes to holds together. -/
theorem stepT_all {α : Type} {o : TOp} {K : α → (Nat → Value) → World → Prop} {ρ : Nat → Value} {w : World} (hq : loudOp o.1.op = false) (hS : isLd o.1.op = true → S w) (a0 : α) (h : ∀ a, stepT P ops S o (K a) ρ w) : stepT P ops S o (fun ρ w => ∀ a, K a ρ w) ρ w := by
  obtain ⟨o, b⟩ := o
  simp only [stepT, WH0] at h ⊢
  split
  · rename_i hw
    simp only [hw, if_true] at h
    simp only at hq hS
    simp only [hq, Bool.false_eq_true, al_i0] at h ⊢
    obtain ⟨v, hv, _⟩ := h a0
    refine ⟨v, hv, fun a => ?_⟩
    obtain ⟨u, hu, hr⟩ := h a
    have e1 := hv w hS
    have e2 := hu w hS
    rw [e1] at e2
    have : v = u := by simpa using e2
    subst this
    exact hr
  · rename_i hw
    have hw' : wanted ops o ρ = false := by simpa using hw
    simp only [hw', Bool.false_eq_true, al_i0] at h
    exact fun a => h a
end
theorem stepT_monoS {P : Program} {ops : Array Oper} {S : World → Prop} {o : TOp} {K K' : (Nat → Value) → World → Prop} {ρ : Nat → Value} {w : World} {c : Prop} (hS : c → S w) (ht : c → loudOp o.1.op = true → o.2 = true) (hm : ∀ ρ w, (c → S w) → K ρ w → K' ρ w) (h : stepT P ops S o K ρ w) : stepT P ops S o K' ρ w := by
  obtain ⟨o, b⟩ := o
  simp only [stepT, WH0] at h ⊢
  simp only at ht
  split
  · rename_i hw; rw [if_pos hw] at h
    split
    · rename_i hl; rw [if_pos hl] at h
      exact stepo_mono h fun v w' ⟨hS', hr⟩ => ⟨hS', hm _ _ (fun hc => hS' (ht hc hl)) hr⟩
    · rename_i hl; rw [if_neg hl] at h
      obtain ⟨v, hv, hr⟩ := h
      exact ⟨v, hv, hm _ _ hS hr⟩
  · rename_i hw; rw [if_neg hw] at h; exact hm _ _ hS h
/-- one of the pending operations must come ahead of this one -/
def blocked (ops : Array Oper) (A : List Nat) (i : Nat) : Bool := A.any fun a => path ops 8 a i
/-- R in its order, the pending A at any timeY -/
def WHF (P : Program) (T : Array TOp) (ops : Array Oper) (S : World → Prop) (Q : Post) : Nat → List Nat → List Nat → (Nat → Value) → World → Prop
  | 0, _, _, ρ, w => Q .normal ρ w
  | f + 1, A, R, ρ, w => (∀ i os, R = i :: os → blocked ops A i = false → ∀ x, T[i]? = some x → stepT P ops S x (WHF P T ops S Q f A os) ρ w) ∧
      (∀ a ∈ A, ∀ x, T[a]? = some x → stepT P ops S x (WHF P T ops S Q f (A.erase a) R) ρ w)
section
variable {P : Program} {T : Array TOp} {ops : Array Oper} {S : World → Prop} {Q : Post}
theorem blocked_erase {A : List Nat} {i a : Nat} (h : blocked ops A i = false) : blocked ops (A.erase a) i = false := by
  simp only [blocked, List.any_eq_false] at h ⊢
  exact fun b hb => h b (List.mem_of_mem_erase hb)
theorem quietF {y : Nat} {ty : TOp} (hy : T[y]? = some ty) : ∀ (f : Nat) (A os : List Nat) (ρ : Nat → Value) (w : World), f = A.length + os.length → blocked ops A y = false → (∀ a ∈ A, ∀ x, T[a]? = some x → mayswap ops ty x = true) → stepT P ops S ty (WHF P T ops S Q f A os) ρ w → WHF P T ops S Q (f + 1) A (y :: os) ρ w := by
  intro f
  induction f with
  | zero =>
    intro A os ρ w hf hb hm h
    have hA : A = [] := List.eq_nil_of_length_eq_zero (by omega)
    have ho : os = [] := List.eq_nil_of_length_eq_zero (by omega)
    subst hA; subst ho
    refine ⟨?_, fun a ha => by cases ha⟩
    intro i os e _ x hx
    injection e with e1 e2
    subst e1; subst e2
    rw [hy] at hx; injection hx with hx; subst hx
    exact h
  | succ f ih =>
    intro A os ρ w hf hb hm h
    refine ⟨?_, ?_⟩
    · intro i os' e _ x hx
      injection e with e1 e2
      subst e1; subst e2
      rw [hy] at hx; injection hx with hx; subst hx
      exact h
    · intro a ha x hx
      have hl : (A.erase a).length = A.length - 1 := List.length_erase_of_mem ha
      have hpos : 0 < A.length := List.length_pos_of_mem ha
      have h1 : stepT P ops S ty (stepT P ops S x (WHF P T ops S Q f (A.erase a) os)) ρ w := stepT_mono (fun ρ w hh => hh.2 a ha x hx) h
      have h2 := swapK (hm a ha x hx) h1
      exact stepT_mono (fun ρ w hh => ih (A.erase a) os ρ w (by omega) (blocked_erase hb) (fun b hb' => hm b (List.mem_of_mem_erase hb')) hh) h2
theorem frontF {i : Nat} {ti : TOp} (hi : T[i]? = some ti) (R2 : List Nat) : ∀ (f : Nat) (A R1 : List Nat) (ρ : Nat → Value) (w : World), f = A.length + (R1 ++ i :: R2).length → blocked ops A i = false →
      (∀ y ∈ R1, ∃ x, T[y]? = some x ∧ mayswap ops x ti = true) → (loudOp ti.1.op = true → ∀ y ∈ R1, blocked ops A y = false ∧ ∀ x, T[y]? = some x → ∀ a ∈ A, ∀ z, T[a]? = some z → mayswap ops x z = true) →
      (loudOp ti.1.op = false → ∀ a ∈ A, ∃ z, T[a]? = some z ∧ mayswap ops z ti = true) → (isLd ti.1.op = true → S w) → WHF P T ops S Q f A (R1 ++ i :: R2) ρ w → stepT P ops S ti (WHF P T ops S Q (f - 1) A (R1 ++ R2)) ρ w := by
  intro f
  induction f with
  | zero => intro A R1 ρ w hf; simp at hf
  | succ f ih =>
    intro A R1 ρ w hf hb h1 h2 h3 hS h
    cases R1 with
    | nil => exact h.1 i R2 rfl hb ti hi
    | cons y l =>
      obtain ⟨ty, hy, hyi⟩ := h1 y (List.mem_cons_self ..)
      have hfl : f = A.length + (l ++ i :: R2).length := by simp at hf ⊢; omega
      have hf0 : 0 < f := by simp at hfl; omega
      obtain ⟨g, rfl⟩ : ∃ g, f = g + 1 := ⟨f - 1, by omega⟩
      have hgl : g = A.length + (l ++ R2).length := by simp at hfl ⊢; omega
      simp only [Nat.add_sub_cancel]
      cases hl : loudOp ti.1.op with
      | true =>
        obtain ⟨hby, hya⟩ := h2 hl y (List.mem_cons_self ..)
        have h4 := h.1 y (l ++ i :: R2) rfl hby ty hy
        have h5 : stepT P ops S ty (stepT P ops S ti (WHF P T ops S Q g A (l ++ R2))) ρ w := stepT_mono (fun ρ w hh => ih A l ρ w hfl hb (fun z hz => h1 z (List.mem_cons_of_mem _ hz)) (fun hh z hz => h2 hh z (List.mem_cons_of_mem _ hz)) h3 (fun hld => by
          exfalso
          revert hl hld
          cases ti.1.op <;> simp [loudOp, isLd]) hh) h4
        have h6 := swapK hyi h5
        exact stepT_mono (fun ρ w hh => quietF hy g A (l ++ R2) ρ w hgl hby (fun a ha x hx => hya ty hy a ha x hx) hh) h6
      | false =>
        have h3' := h3 hl
        have hbr : ∀ a ∈ A, ∀ x, T[a]? = some x → stepT P ops S ti (stepT P ops S x (WHF P T ops S Q g (A.erase a) (y :: (l ++ R2)))) ρ w := by
          intro a ha x hx
          have hle : (A.erase a).length = A.length - 1 := List.length_erase_of_mem ha
          have hpos : 0 < A.length := List.length_pos_of_mem ha
          obtain ⟨z, hz, hzi⟩ := h3' a ha
          rw [hx] at hz; injection hz with hz; subst hz
          have h4 := h.2 a ha x hx
          refine swapK hzi ?_
          refine stepT_monoS (c := isLd ti.1.op = true) hS ?_ ?_ h4
          · intro hld hlo
            simp only [mayswap, Bool.and_eq_true] at hzi
            have := hzi.1.2
            simpa [hlo, hld] using this
          · intro ρ w hS' hh
            have h5 := ih (A.erase a) (y :: l) ρ w (by simp at hfl ⊢; omega) (blocked_erase hb) h1 (fun hh => by rw [hl] at hh; cases hh) (fun _ b hb' => h3' b (List.mem_of_mem_erase hb')) hS' hh
            simpa using h5
        have hK : ∀ idx : Option Nat, stepT P ops S ti (fun ρ w => match idx with
            | none => ∀ i' os', y :: (l ++ R2) = i' :: os' → blocked ops A i' = false → ∀ x, T[i']? = some x → stepT P ops S x (WHF P T ops S Q g A os') ρ w
            | some a => a ∈ A → ∀ x, T[a]? = some x → stepT P ops S x (WHF P T ops S Q g (A.erase a) (y :: (l ++ R2))) ρ w) ρ w := by
          intro idx
          cases idx with
          | none =>
            cases hby : blocked ops A y with
            | false =>
              have h4 := h.1 y (l ++ i :: R2) rfl hby ty hy
              have h5 : stepT P ops S ti (stepT P ops S ty (WHF P T ops S Q g A (l ++ R2))) ρ w := by
                refine swapK hyi ?_
                refine stepT_monoS (c := isLd ti.1.op = true) hS ?_ ?_ h4
                · intro hld hlo
                  simp only [mayswap, Bool.and_eq_true] at hyi
                  have := hyi.1.2
                  simpa [hlo, hld] using this
                · intro ρ w hS' hh
                  exact ih A l ρ w hfl hb (fun z hz => h1 z (List.mem_cons_of_mem _ hz)) (fun hh z hz => h2 hh z (List.mem_cons_of_mem _ hz)) h3 hS' hh
              refine stepT_mono ?_ h5
              intro ρ w hh i' os' e _ x hx
              injection e with e1 e2
              subst e1; subst e2
              rw [hy] at hx; injection hx with hx; subst hx
              exact hh
            | true =>
              simp only [blocked, List.any_eq_true] at hby
              obtain ⟨a, ha, _⟩ := hby
              obtain ⟨z, hz, _⟩ := h3' a ha
              refine stepT_mono ?_ (hbr a ha z hz)
              intro ρ w _ i' os' e hb' x hx
              exfalso
              injection e with e1 e2
              subst e1
              have : blocked ops A y = true := by simp only [blocked, List.any_eq_true]; exact ⟨a, ha, by assumption⟩
              rw [this] at hb'; cases hb'
          | some a =>
            by_cases ha : a ∈ A
            · obtain ⟨z, hz, _⟩ := h3' a ha
              refine stepT_mono ?_ (hbr a ha z hz)
              intro ρ w hh _ x hx
              rw [hz] at hx; injection hx with hx; subst hx
              exact hh
            · have h0 : ∃ K, stepT P ops S ti K ρ w := by
                cases hby : blocked ops A y with
                | false =>
                  have h4 := h.1 y (l ++ i :: R2) rfl hby ty hy
                  refine ⟨stepT P ops S ty (WHF P T ops S Q g A (l ++ R2)), swapK hyi ?_⟩
                  refine stepT_monoS (c := isLd ti.1.op = true) hS ?_ ?_ h4
                  · intro hld hlo
                    simp only [mayswap, Bool.and_eq_true] at hyi
                    have := hyi.1.2
                    simpa [hlo, hld] using this
                  · intro ρ w hS' hh
                    exact ih A l ρ w hfl hb (fun z hz => h1 z (List.mem_cons_of_mem _ hz)) (fun hh z hz => h2 hh z (List.mem_cons_of_mem _ hz)) h3 hS' hh
                | true =>
                  simp only [blocked, List.any_eq_true] at hby
                  obtain ⟨b, hb', _⟩ := hby
                  obtain ⟨z, hz, _⟩ := h3' b hb'
                  exact ⟨_, hbr b hb' z hz⟩
              obtain ⟨K, h0⟩ := h0
              exact stepT_mono (fun _ _ _ ha' => absurd ha' ha) h0
        have hall := stepT_all (K := fun (idx : Option Nat) ρ w => match idx with
            | none => ∀ i' os', y :: (l ++ R2) = i' :: os' → blocked ops A i' = false → ∀ x, T[i']? = some x → stepT P ops S x (WHF P T ops S Q g A os') ρ w
            | some a => a ∈ A → ∀ x, T[a]? = some x → stepT P ops S x (WHF P T ops S Q g (A.erase a) (y :: (l ++ R2))) ρ w) hl hS none hK
        refine stepT_mono ?_ hall
        intro ρ w hh
        exact ⟨hh none, fun a ha => hh (some a) ha⟩
end
def chkPA (ops : Array Oper) (T : Array TOp) (a y : Nat) : Bool :=
  match T[a]?, T[y]? with
  | some x, some z => loudOp x.1.op && (loudOp z.1.op || (mayswap ops x z && mayswap ops z x) || path ops 8 a y) && (!isLd z.1.op || x.2)
  | _, _ => false
def noEdge (ops : Array Oper) (a : Nat) : Bool := ((ops[a]?).map (·.after.all fun e => !Region.binds .any e)).getD false
def loudA (ops : Array Oper) (a : Nat) : Bool := ((ops[a]?).map fun o => loudOp o.op).getD false
def chk3 (ops : Array Oper) (T : Array TOp) (A : List Nat) (i j : Nat) : Bool :=
  match T[i]?, T[j]? with
  | some x, some y => loudOp x.1.op || !loudOp y.1.op || A.all (fun a => !path ops 8 a i || path ops 8 a j)
  | _, _ => false
def chkF (T : List TOp) (A : List Nat) : Bool :=
  let ops := (T.map (·.1)).toArray
  A.all (fun a => Nat.ble (a + 1) T.length) && decide A.Nodup &&
  (List.range T.length).all fun j => chkOp ops j && (if A.contains j then (noEdge ops j && loudA ops j) && (List.range T.length).all fun y => A.contains y || chkPA ops T.toArray j y else (List.range j).all fun i => A.contains i || (chkPair ops T.toArray i j && chk3 ops T.toArray A i j))
section
variable {P : Program} {n : Nat} {S : World → Prop} {Q : Post} {T : List TOp} {A0 : List Nat}
theorem draw_soundF (hchk : chkF T A0 = true) (hd : dstsOK n (T.map (·.1)) = true) :
    ∀ (fuel : Nat) (listed : Array Bool) (A R : List Nat) (ρ : Nat → Value) (w : World), listed.size = T.length → A = A0.filter (fun i => !listed.getD i true) → R = (List.range T.length).filter (fun i => !listed.getD i true && !A0.contains i) → A.length + R.length ≤ fuel →
      (∀ j o, (T.map (·.1)).toArray[j]? = some o → listed.getD j true = true → ∀ e ∈ o.after, Region.binds .any e = true → listed.getD e.on false = true) →
      Und n ρ → (∀ j x, T[j]? = some x → listed.getD j true = false → isLd x.1.op = true → S w) → WHF P T.toArray (T.map (·.1)).toArray S Q (A.length + R.length) A R ρ w →
      wpAny P .any (T.map (·.1)).toArray (lift n Q) fuel listed (act n ρ) w := by
  have hlen : (T.map (·.1)).toArray.size = T.length := by simp
  have hget : ∀ (i : Nat) (x : TOp), T[i]? = some x → (T.map (·.1)).toArray[i]? = some x.1 := by
    intro i x hx; simp [hx]
  simp only [chkF, Bool.and_eq_true, List.all_eq_true, List.mem_range, al_ete] at hchk
  obtain ⟨⟨hA0, hnd⟩, hchk⟩ := hchk
  have hop : ∀ j, j < T.length → chkOp (T.map (·.1)).toArray j = true := fun j hj => (hchk j hj).1
  have hA0l : ∀ a ∈ A0, a < T.length := fun a ha => Nat.le_of_ble_eq_true (hA0 a ha)
  have hedge : ∀ a ∈ A0, (noEdge (T.map (·.1)).toArray a = true ∧ loudA (T.map (·.1)).toArray a = true) ∧ ∀ y, y < T.length → y ∉ A0 → chkPA (T.map (·.1)).toArray T.toArray a y = true := by
    intro a ha
    have h := (hchk a (hA0l a ha)).2
    rw [if_pos (by simpa using ha), Bool.and_eq_true, Bool.and_eq_true] at h
    refine ⟨h.1, fun y hy hn => ?_⟩
    have h2 := h.2
    simp only [List.all_eq_true, List.mem_range, Bool.or_eq_true] at h2
    rcases h2 y hy with h3 | h3
    · exact absurd (by simpa using h3) hn
    · exact h3
  have hpair : ∀ i j, i < j → j < T.length → i ∉ A0 → j ∉ A0 → chkPair (T.map (·.1)).toArray T.toArray i j = true ∧ chk3 (T.map (·.1)).toArray T.toArray A0 i j = true := by
    intro i j hij hj hni hnj
    have h := (hchk j hj).2
    rw [if_neg (by simpa using hnj)] at h
    simp only [List.all_eq_true, List.mem_range, Bool.or_eq_true, Bool.and_eq_true] at h
    rcases h i hij with h3 | h3
    · exact absurd (by simpa using h3) hni
    · exact h3
  intro fuel
  induction fuel with
  | zero =>
    intro listed A R ρ w hsz hA hR hf hcl hu hS h
    have e1 : A = [] := List.eq_nil_of_length_eq_zero (by omega)
    have e2 : R = [] := List.eq_nil_of_length_eq_zero (by omega)
    subst e1; subst e2
    refine ⟨?_, ⟨ρ, hu, rfl, h⟩⟩
    unfold Region.ready
    rw [List.filter_eq_nil_iff]
    intro i hi hc
    simp only [Bool.and_eq_true] at hc
    rw [hlen] at hi
    by_cases hiA : i ∈ A0
    · have : i ∈ A0.filter (fun i => !listed.getD i true) := by rw [List.mem_filter]; exact ⟨hiA, hc.1⟩
      rw [← hA] at this; cases this
    · have : i ∈ (List.range T.length).filter (fun i => !listed.getD i true && !A0.contains i) := by rw [List.mem_filter]; exact ⟨hi, by simp only [Bool.and_eq_true, hc.1, al_ta]; simpa using hiA⟩
      rw [← hR] at this; cases this
  | succ fuel ih =>
    intro listed A R ρ w hsz hA hR hf hcl hu hS h
    have hAm : ∀ a ∈ A, a ∈ A0 ∧ listed.getD a true = false := by
      intro a ha; rw [hA, List.mem_filter] at ha; exact ⟨ha.1, by simpa using ha.2⟩
    have hRm : ∀ j ∈ R, j < T.length ∧ listed.getD j true = false ∧ j ∉ A0 := by
      intro j hj
      rw [hR, List.mem_filter, List.mem_range, Bool.and_eq_true] at hj
      exact ⟨hj.1, by simpa using hj.2.1, by simpa using hj.2.2⟩
    have hsortR : R.Pairwise (· < ·) := by rw [hR]; exact List.Pairwise.filter _ List.pairwise_lt_range
    constructor
    · intro hready
      cases hAe : A with
      | cons a A' =>
        exfalso
        have haA : a ∈ A := by rw [hAe]; simp
        obtain ⟨ha0, hal⟩ := hAm a haA
        have hat := hA0l a ha0
        have hin : a ∈ Region.ready .any (T.map (·.1)).toArray listed := by
          unfold Region.ready
          rw [List.mem_filter, List.mem_range, hlen]
          refine ⟨hat, ?_⟩
          have hx : T[a]? = some T[a] := by simp [hat]
          have hne := (hedge a ha0).1.1
          rw [noEdge, hget a _ hx] at hne
          rw [hget a _ hx]
          simp only [Option.map_some, Option.getD_some, Bool.and_eq_true, Array.all_eq_true] at hne ⊢
          refine ⟨by simpa using hal, fun m hm => ?_⟩
          rw [Bool.or_eq_true]; exact Or.inl (hne m hm)
        rw [hready] at hin; cases hin
      | nil =>
        subst hAe
        cases hRe : R with
        | nil => subst hRe; exact ⟨ρ, hu, rfl, h⟩
        | cons i R' =>
          exfalso
          have hiR : i ∈ R := by rw [hRe]; simp
          obtain ⟨hiT, hil, hiA⟩ := hRm i hiR
          have hin : i ∈ Region.ready .any (T.map (·.1)).toArray listed := by
            unfold Region.ready
            rw [List.mem_filter, List.mem_range, hlen]
            refine ⟨hiT, ?_⟩
            have hx : T[i]? = some T[i] := by simp [hiT]
            rw [hget i _ hx]
            simp only [Option.map_some, Option.getD_some, Bool.and_eq_true, Array.all_eq_true]
            refine ⟨by simpa using hil, ?_⟩
            intro m hm
            have hc := hop i hiT
            simp only [chkOp, hget i _ hx, Option.map_some, Option.getD_some, Array.all_eq_true] at hc
            have hcm := hc m hm
            rw [Bool.or_eq_true] at hcm ⊢
            rcases hcm with hcm | hcm
            · left; exact hcm
            · right
              have hlt : ((T[i]).1.after[m]).on < i := Nat.le_of_ble_eq_true hcm
              cases hb : listed.getD ((T[i]).1.after[m]).on false with
              | true => rfl
              | false =>
                exfalso
                have hlt' : ((T[i]).1.after[m]).on < listed.size := by omega
                have hb' : listed.getD ((T[i]).1.after[m]).on true = false := by simp [Array.getD, hlt'] at hb ⊢; exact hb
                by_cases hin0 : ((T[i]).1.after[m]).on ∈ A0
                · have : ((T[i]).1.after[m]).on ∈ A0.filter (fun i => !listed.getD i true) := by rw [List.mem_filter]; exact ⟨hin0, by simp [hb']⟩
                  rw [← hA] at this; cases this
                · have hmem : ((T[i]).1.after[m]).on ∈ R := by
                    rw [hR, List.mem_filter, List.mem_range]
                    exact ⟨by omega, by rw [Bool.and_eq_true]; exact ⟨by simp [hb'], by simpa using hin0⟩⟩
                  rw [hRe] at hmem hsortR
                  rw [List.pairwise_cons] at hsortR
                  rcases List.mem_cons.1 hmem with e | e
                  · omega
                  · have := hsortR.1 _ e; omega
          rw [hready] at hin; cases hin
    · intro i hi
      unfold Region.ready at hi
      rw [List.mem_filter, List.mem_range, hlen, Bool.and_eq_true] at hi
      obtain ⟨hiT, hnl, hall⟩ := hi
      have hnl' : listed.getD i true = false := by simpa using hnl
      have hx : T[i]? = some T[i] := by simp [hiT]
      generalize T[i] = ob at hx
      obtain ⟨o, bo⟩ := ob
      have ho := hget i _ hx
      simp only at ho
      rw [ho] at hall
      simp only [Option.map_some, Option.getD_some, Array.all_eq_true] at hall
      have hall' : ∀ e ∈ o.after, Region.binds .any e = true → listed.getD e.on false = true := by
        intro e he hb
        obtain ⟨m, hm, rfl⟩ := Array.mem_iff_getElem.1 he
        have := hall m hm
        simpa [hb] using this
      have hilt : i < listed.size := by omega
      have hnp : ∀ j, listed.getD j true = false → j < T.length → path (T.map (·.1)).toArray 8 j i = false := by
        intro j hj hjT
        cases hp : path (T.map (·.1)).toArray 8 j i with
        | false => rfl
        | true =>
          exfalso
          have := path_listed hcl 8 j i o ho hall' hp
          have hlt : j < listed.size := by omega
          simp [Array.getD, hlt] at this hj
          rw [this] at hj; cases hj
      have hdst : ∀ d, o.dst = some d → d < n := by
        intro d hdd
        simp only [dstsOK, List.all_eq_true] at hd
        have := hd o (by rw [List.mem_map]; exact ⟨(o, bo), List.mem_of_getElem? hx, rfl⟩)
        rw [hdd] at this
        exact Nat.le_of_ble_eq_true this
      have hput : ∀ v, (act n ρ).put o.dst v = act n (updo ρ o.dst v) := by
        intro v
        cases hdd : o.dst with
        | none => rfl
        | some d => exact act_put v
      have hset : ∀ j, (listed.setIfInBounds i true).getD j true = if j = i then true else listed.getD j true := by
        intro j
        by_cases hji : j = i
        · subst hji; simp [Array.getD, hilt]
        · rw [if_neg hji]
          by_cases hjl : j < listed.size
          · simp [Array.getD, hjl, Array.getElem_setIfInBounds_ne hjl (fun e => hji e.symm)]
          · simp [Array.getD, hjl]
      have hcl' : ∀ j o', (T.map (·.1)).toArray[j]? = some o' → (listed.setIfInBounds i true).getD j true = true → ∀ e ∈ o'.after, Region.binds .any e = true → (listed.setIfInBounds i true).getD e.on false = true := by
        intro j o' ho' hl e he hb
        have hmono : listed.getD e.on false = true → (listed.setIfInBounds i true).getD e.on false = true := by
          intro h0
          by_cases hei : e.on = i
          · rw [hei]; simp [Array.getD, hilt]
          · by_cases hel : e.on < listed.size
            · simp [Array.getD, hel, Array.getElem_setIfInBounds_ne hel (fun x => hei x.symm)] at h0 ⊢; exact h0
            · simp [Array.getD, hel] at h0
        apply hmono
        by_cases hji : j = i
        · subst hji; rw [ho] at ho'; cases ho'; exact hall' e he hb
        · refine hcl j o' ho' ?_ e he hb
          rw [hset, if_neg hji] at hl; exact hl
      -- the rest
      have main : ∃ A' R', A' = A0.filter (fun j => !(listed.setIfInBounds i true).getD j true) ∧ R' = (List.range T.length).filter (fun j => !(listed.setIfInBounds i true).getD j true && !A0.contains j) ∧ A'.length + R'.length + 1 = A.length + R.length ∧
          stepT P (T.map (·.1)).toArray S (o, bo) (WHF P T.toArray (T.map (·.1)).toArray S Q (A'.length + R'.length) A' R') ρ w ∧
          (loudOp o.op = true → ∀ j x, T[j]? = some x → (listed.setIfInBounds i true).getD j true = false → isLd x.1.op = true → bo = true) := by
        by_cases hi0 : i ∈ A0
        · have hiA : i ∈ A := by rw [hA, List.mem_filter]; exact ⟨hi0, hnl⟩
          have eA : A.erase i = A0.filter (fun j => !(listed.setIfInBounds i true).getD j true) := by
            have hndA : A.Nodup := by rw [hA]; exact hnd.filter _
            rw [hndA.erase_eq_filter, hA, List.filter_filter]
            refine List.filter_congr ?_
            intro j hj
            rw [hset]
            by_cases hji : j = i
            · simp [hji]
            · simp [hji]
          have eR : R = (List.range T.length).filter (fun j => !(listed.setIfInBounds i true).getD j true && !A0.contains j) := by
            rw [hR]
            refine List.filter_congr ?_
            intro j hj
            rw [hset]
            by_cases hji : j = i
            · subst hji; simp [hi0]
            · simp [hji]
          have hle : (A.erase i).length = A.length - 1 := List.length_erase_of_mem hiA
          have hpos : 0 < A.length := List.length_pos_of_mem hiA
          obtain ⟨g, hg⟩ : ∃ g, A.length + R.length = g + 1 := ⟨A.length + R.length - 1, by omega⟩
          rw [hg] at h
          refine ⟨A.erase i, R, eA, eR, by omega, ?_, ?_⟩
          · have := h.2 i hiA (o, bo) (by simpa using hx)
            have hgl : (A.erase i).length + R.length = g := by omega
            rw [hgl]; exact this
          · intro _ j x hxj hjl hld
            have hji : j ≠ i := fun e => by rw [hset, if_pos e] at hjl; cases hjl
            rw [hset, if_neg hji] at hjl
            have hjT : j < T.length := al_ge hxj
            by_cases hj0 : j ∈ A0
            · exfalso
              have h2 := (hedge j hj0).1.2
              rw [loudA, hget j _ hxj] at h2
              simp only [Option.map_some, Option.getD_some] at h2
              revert h2 hld
              cases x.1.op <;> simp [loudOp, isLd]
            · have h3 := (hedge i hi0).2 j hjT hj0
              simp only [chkPA, List.getElem?_toArray, hx, hxj, Bool.and_eq_true, Bool.or_eq_true] at h3
              rcases h3.2 with h4 | h4
              · rw [hld] at h4; cases h4
              · exact h4
        · have hiR : i ∈ R := by rw [hR, List.mem_filter, List.mem_range, Bool.and_eq_true]; exact ⟨hiT, hnl, by simpa using hi0⟩
          obtain ⟨R1, R2, hRe⟩ := List.append_of_mem hiR
          rw [hRe] at hsortR
          rw [List.pairwise_append, List.pairwise_cons] at hsortR
          obtain ⟨hs1, ⟨hs2, hs3⟩, hs4⟩ := hsortR
          have eA : A = A0.filter (fun j => !(listed.setIfInBounds i true).getD j true) := by
            rw [hA]
            refine List.filter_congr ?_
            intro j hj
            rw [hset, if_neg (show j ≠ i from fun e => hi0 (by rw [← e]; exact hj))]
          have eR : R1 ++ R2 = (List.range T.length).filter (fun j => !(listed.setIfInBounds i true).getD j true && !A0.contains j) := by
            have e1 : (List.range T.length).filter (fun j => !(listed.setIfInBounds i true).getD j true && !A0.contains j) = R.filter (fun j => j != i) := by
              rw [hR, List.filter_filter]
              refine List.filter_congr ?_
              intro j hj
              rw [hset]
              by_cases hji : j = i
              · simp [hji]
              · simp [hji]
            rw [e1, hRe, List.filter_append, List.filter_cons]
            simp only [al_sn, al_sm, Bool.false_eq_true, al_i0]
            rw [List.filter_eq_self.2, List.filter_eq_self.2]
            · intro j hj; have := hs2 j hj; simp; omega
            · intro j hj; have := hs4 j hj i (by simp); simp; omega
          have hR1 : ∀ y ∈ R1, y < i ∧ y < T.length ∧ listed.getD y true = false ∧ y ∉ A0 := by
            intro y hy
            have := hRm y (by rw [hRe]; simp [hy])
            exact ⟨hs4 y hy i (by simp), this.1, this.2.1, this.2.2⟩
          have hsw : ∀ y ∈ R1, ∀ x, T[y]? = some x → mayswap (T.map (·.1)).toArray x (o, bo) = true := by
            intro y hy x hxy
            obtain ⟨hyi, hyT, hyl, hy0⟩ := hR1 y hy
            have hp := (hpair y i hyi hiT hy0 hi0).1
            simp only [chkPair, List.getElem?_toArray, hxy, hx, Bool.and_eq_true, Bool.or_eq_true] at hp
            rcases hp.1 with hp | hp
            · exact hp
            · rw [hnp y hyl hyT] at hp; cases hp
          have hbi : blocked (T.map (·.1)).toArray A i = false := by
            simp only [blocked, List.any_eq_false]
            intro a ha
            rw [hnp a (hAm a ha).2 (hA0l a (hAm a ha).1)]; simp
          refine ⟨A, R1 ++ R2, eA, eR, by rw [hRe]; simp; omega, ?_, ?_⟩
          · have hf := frontF (P := P) (T := T.toArray) (ops := (T.map (·.1)).toArray) (S := S) (Q := Q) (i := i) (ti := (o, bo)) (by simpa using hx) R2 (A.length + R.length) A R1 ρ w (by rw [hRe]) hbi ?_ ?_ ?_ ?_ (by rw [hRe] at h ⊢; exact h)
            · have e3 : A.length + R.length - 1 = A.length + (R1 ++ R2).length := by rw [hRe]; simp; omega
              rw [e3] at hf; exact hf
            · intro y hy
              obtain ⟨_, hyT, _, _⟩ := hR1 y hy
              have hxy : T[y]? = some T[y] := by simp [hyT]
              exact ⟨T[y], by simp [hyT], hsw y hy _ hxy⟩
            · intro hlo y hy
              obtain ⟨hyi, hyT, hyl, hy0⟩ := hR1 y hy
              have hxy : T[y]? = some T[y] := by simp [hyT]
              have hms := hsw y hy _ hxy
              have hyq : loudOp (T[y]).1.op = false := by
                simp only [mayswap, Bool.and_eq_true, Bool.not_eq_true'] at hms
                have := hms.1.1.1.1.2
                simp only at hlo
                cases hq : loudOp (T[y]).1.op with
                | false => rfl
                | true => rw [hq, hlo] at this; cases this
              have h3 := (hpair y i hyi hiT hy0 hi0).2
              simp only at hlo
              simp only [chk3, List.getElem?_toArray, hxy, hx, hyq, hlo, al_bnt, al_bof, al_bfo, List.all_eq_true] at h3
              have hpy : ∀ a ∈ A, path (T.map (·.1)).toArray 8 a y = false := by
                intro a ha
                have h4 := h3 a (hAm a ha).1
                rw [hnp a (hAm a ha).2 (hA0l a (hAm a ha).1)] at h4
                simpa using h4
              refine ⟨?_, ?_⟩
              · simp only [blocked, List.any_eq_false]
                intro a ha; rw [hpy a ha]; simp
              · intro x hxx a ha z hz
                have hxx' : T[y]? = some x := by simpa using hxx
                have hz' : T[a]? = some z := by simpa using hz
                have h5 := (hedge a (hAm a ha).1).2 y hyT hy0
                rw [hxy] at hxx'; injection hxx' with hxx'
                simp only [chkPA, List.getElem?_toArray, hz', hxy, hyq, hpy a ha, Bool.and_eq_true, al_bof, al_bfo] at h5
                rw [← hxx']; exact h5.1.2.2
            · intro hlo a ha
              have hat := hA0l a (hAm a ha).1
              have hxa : T[a]? = some T[a] := by simp [hat]
              have h5 := (hedge a (hAm a ha).1).2 i hiT hi0
              simp only at hlo
              simp only [chkPA, List.getElem?_toArray, hxa, hx, hlo, hnp a (hAm a ha).2 hat, Bool.and_eq_true, al_bof, al_bfo] at h5
              exact ⟨T[a], by simp [hat], h5.1.2.1⟩
            · intro hld
              exact hS i (o, bo) hx hnl' hld
          · intro hlo j x hxj hjl hld
            have hji : j ≠ i := fun e => by rw [hset, if_pos e] at hjl; cases hjl
            rw [hset, if_neg hji] at hjl
            have hjT : j < T.length := al_ge hxj
            have hj0 : j ∉ A0 := by
              intro hj0
              have h2 := (hedge j hj0).1.2
              rw [loudA, hget j _ hxj] at h2
              simp only [Option.map_some, Option.getD_some] at h2
              revert h2 hld
              cases x.1.op <;> simp [loudOp, isLd]
            rcases Nat.lt_or_gt_of_ne hji with hlt | hgt
            · have hp := (hpair j i hlt hiT hj0 hi0).1
              simp only [chkPair, List.getElem?_toArray, hxj, hx, Bool.and_eq_true, Bool.or_eq_true] at hp
              rcases hp.1 with hp | hp
              · simp only [mayswap, Bool.and_eq_true] at hp
                have h6 := hp.2
                simpa [hld, hlo] using h6
              · rw [hnp j hjl hjT] at hp; cases hp
            · have hp := (hpair i j hgt hjT hi0 hj0).1
              simp only [chkPair, List.getElem?_toArray, hxj, hx, Bool.and_eq_true] at hp
              have h6 := hp.2
              simpa [hld, hlo] using h6
      obtain ⟨A', R', eA, eR, hlen', hst, htag⟩ := main
      have next : ∀ ρ' w', Und n ρ' → (∀ j x, T[j]? = some x → (listed.setIfInBounds i true).getD j true = false → isLd x.1.op = true → S w') → WHF P T.toArray (T.map (·.1)).toArray S Q (A'.length + R'.length) A' R' ρ' w' →
          wpAny P .any (T.map (·.1)).toArray (lift n Q) fuel (listed.setIfInBounds i true) (act n ρ') w' := by
        intro ρ' w' hu' hS' h'
        exact ih (listed.setIfInBounds i true) A' R' ρ' w' (by simp; exact hsz) eA eR (by omega) hcl' hu' hS' h'
      have hSrest : ∀ j x, T[j]? = some x → (listed.setIfInBounds i true).getD j true = false → isLd x.1.op = true → S w := by
        intro j x hxj hjl hld
        have hji : j ≠ i := fun e => by rw [hset, if_pos e] at hjl; cases hjl
        rw [hset, if_neg hji] at hjl
        exact hS j x hxj hjl hld
      unfold wpOp
      rw [ho]
      simp only
      rw [wanted_eq _ o hu]
      simp only [stepT, WH0] at hst
      split
      · rename_i hw
        rw [if_pos hw] at hst
        left
        split at hst
        · rename_i hloud
          refine wp_of_stepo hu hdst (stepo_mono hst ?_)
          rintro v w' ⟨hSv, hr⟩
          exact next _ _ (hu.updo hdst) (fun j x hxj hjl hld => hSv (htag hloud j x hxj hjl hld)) hr
        · rename_i hloud
          obtain ⟨v, hv, hr⟩ := hst
          have hrun : (execOp (ev ρ) o).run P w = .ok (.value v) w := hv w (fun hl => hS i (o, bo) hx hnl' hl)
          refine wp_of_stepo hu hdst ?_
          unfold stepo
          rw [hrun]
          exact next _ _ (hu.updo hdst) hSrest hr
      · rename_i hw
        rw [if_neg hw] at hst
        rw [hput]
        exact next _ _ (hu.updo hdst) hSrest hst
end
structure WHG (P : Program) (T : List TOp) (S : World → Prop) (Q : Post) (A R : List Nat) (ρ : Nat → Value) (w : World) : Prop where
  run : WHF P T.toArray (T.map (·.1)).toArray S Q (A.length + R.length) A R ρ w
theorem W_drawF {P : Program} {n id : Nat} {Q : Post} {ops : List Oper} (tags : List Bool) (A : List Nat) (R : List Nat) {ρ : Nat → Value} {w : World} (hm : P.follows .mixedOrders = true) (hchk : chkF (tz ops tags) A = true) (hR : R = (List.range (tz ops tags).length).filter (fun i => !A.contains i)) (hn : Nat.ble (A.length + R.length) (tz ops tags).length = true) (hd : dstsOK n ops = true)
    (h : WHG P (tz ops tags) (Ext w.drew) Q A R ρ w.drew) : W P n (.region id ops.toArray true) Q ρ w := by
  generalize hT : tz ops tags = T at *
  have hTm : T.map (·.1) = ops := by rw [← hT]; exact tz_map ops tags
  subst hTm
  refine ⟨fun hu => wp_region_any hm ?_⟩
  have hsz : (T.map (·.1)).toArray.size = T.length := by simp
  rw [hsz]
  have hA : A = A.filter (fun i => !(Array.replicate T.length false).getD i true) := by
    symm; rw [List.filter_eq_self]
    intro j hj
    have hjT : j < T.length := by
      simp only [chkF, Bool.and_eq_true, List.all_eq_true] at hchk
      exact Nat.le_of_ble_eq_true (hchk.1.1 j hj)
    simp [Array.getD, hjT]
  have hR' : R = (List.range T.length).filter (fun i => !(Array.replicate T.length false).getD i true && !A.contains i) := by
    rw [hR]
    refine List.filter_congr ?_
    intro j hj; rw [List.mem_range] at hj; simp [Array.getD, hj]
  have hlenAR : A.length + R.length ≤ T.length := Nat.le_of_ble_eq_true hn
  refine draw_soundF hchk hd T.length (Array.replicate T.length false) A R ρ w.drew (by simp) hA hR' hlenAR ?_ hu (fun _ _ _ _ _ => Ext.refl _) h.run
  intro j o ho hl
  have : j < T.length := by
    rcases Nat.lt_or_ge j T.length with h' | h'
    · exact h'
    · simp [List.getElem?_eq_none h'] at ho
  simp [Array.getD, this] at hl
section
variable {P : Program} {T : List TOp} {S : World → Prop} {Q : Post} {ρ : Nat → Value} {w : World} {A os : List Nat} {i : Nat} {x : TOp}
def okq (T : List TOp) (A : List Nat) (i : Nat) : Bool :=
  !blocked (T.map (·.1)).toArray A i && A.all fun a => match T[i]?, T[a]? with
    | some x, some z => mayswap (T.map (·.1)).toArray x z
    | _, _ => false
theorem F_q (hx : T[i]? = some x) (hc : okq T A i = true) (h : WH P (T.map (·.1)).toArray S (fun _ ρ w => WHG P T S Q A os ρ w) [x] ρ w) : WHG P T S Q A (i :: os) ρ w := by
  simp only [okq, Bool.and_eq_true, Bool.not_eq_true', List.all_eq_true] at hc
  refine ⟨?_⟩
  have := quietF (P := P) (T := T.toArray) (ops := (T.map (·.1)).toArray) (S := S) (Q := Q) (y := i) (ty := x) (by simpa using hx) (A.length + os.length) A os ρ w rfl hc.1 ?_ (stepT_mono (fun ρ w hh => hh.run) h.run)
  · rw [List.length_cons, ← Nat.add_assoc]; exact this
  · intro a ha z hz
    have h2 := hc.2 a ha
    have hz' : T[a]? = some z := by simpa using hz
    rw [hx, hz'] at h2
    exact h2
theorem F_end (h : Q .normal ρ w) : WHG P T S Q [] [] ρ w := ⟨h⟩
theorem F_fork (h1 : blocked (T.map (·.1)).toArray A i = false → ∀ x, T[i]? = some x → WH P (T.map (·.1)).toArray S (fun _ ρ w => WHG P T S Q A os ρ w) [x] ρ w) (h2 : ∀ a ∈ A, ∀ x, T[a]? = some x → WH P (T.map (·.1)).toArray S (fun _ ρ w => WHG P T S Q (A.erase a) (i :: os) ρ w) [x] ρ w) : WHG P T S Q A (i :: os) ρ w := by
  refine ⟨?_⟩
  rw [List.length_cons, ← Nat.add_assoc]
  refine ⟨?_, ?_⟩
  · intro i' os' e hb y hy
    injection e with e1 e2
    subst e1; subst e2
    exact stepT_mono (fun ρ w hh => hh.run) (h1 hb y (by simpa using hy)).run
  · intro a ha y hy
    have hle : (A.erase a).length = A.length - 1 := List.length_erase_of_mem ha
    have hpos : 0 < A.length := List.length_pos_of_mem ha
    refine stepT_mono (fun ρ w hh => ?_) (h2 a ha y (by simpa using hy)).run
    have e : A.length + os.length = (A.erase a).length + (i :: os).length := by rw [hle]; simp; omega
    rw [e]; exact hh.run
theorem F_fork1 {a : Nat} {y : TOp} (hx : T[i]? = some x) (hy : T[a]? = some y) (h1 : WH P (T.map (·.1)).toArray S (fun _ ρ w => WHG P T S Q [a] os ρ w) [x] ρ w) (h2 : WH P (T.map (·.1)).toArray S (fun _ ρ w => WHG P T S Q [] (i :: os) ρ w) [y] ρ w) : WHG P T S Q [a] (i :: os) ρ w := by
  refine F_fork (fun _ z hz => ?_) (fun b hb z hz => ?_)
  · rw [hx] at hz; injection hz with hz; subst hz; exact h1
  · rw [List.mem_singleton] at hb; subst hb
    rw [hy] at hz; injection hz with hz; subst hz
    simpa using h2
theorem F_fork1B {a : Nat} {y : TOp} (hb : blocked (T.map (·.1)).toArray [a] i = true) (hy : T[a]? = some y) (h2 : WH P (T.map (·.1)).toArray S (fun _ ρ w => WHG P T S Q [] (i :: os) ρ w) [y] ρ w) : WHG P T S Q [a] (i :: os) ρ w := by
  refine F_fork (fun hb' => by rw [hb] at hb'; cases hb') (fun b hb z hz => ?_)
  rw [List.mem_singleton] at hb; subst hb
  rw [hy] at hz; injection hz with hz; subst hz
  simpa using h2
theorem F_fork2 {a b : Nat} {y z : TOp} (hx : T[i]? = some x) (hy : T[a]? = some y) (hz : T[b]? = some z) (hab : Nat.beq a b = false) (h1 : WH P (T.map (·.1)).toArray S (fun _ ρ w => WHG P T S Q [a, b] os ρ w) [x] ρ w) (h2 : WH P (T.map (·.1)).toArray S (fun _ ρ w => WHG P T S Q [b] (i :: os) ρ w) [y] ρ w) (h3 : WH P (T.map (·.1)).toArray S (fun _ ρ w => WHG P T S Q [a] (i :: os) ρ w) [z] ρ w) : WHG P T S Q [a, b] (i :: os) ρ w := by
  have hne : a ≠ b := fun e => by subst e; simp at hab
  refine F_fork (fun _ u hu => ?_) (fun c hc u hu => ?_)
  · rw [hx] at hu; injection hu with hu; subst hu; exact h1
  · rcases List.mem_cons.1 hc with hc | hc
    · subst hc; rw [hy] at hu; injection hu with hu; subst hu
      simpa using h2
    · rw [List.mem_singleton] at hc; subst hc
      rw [hz] at hu; injection hu with hu; subst hu
      simpa [hne] using h3
theorem F_fork2B {a b : Nat} {y z : TOp} (hb : blocked (T.map (·.1)).toArray [a, b] i = true) (hy : T[a]? = some y) (hz : T[b]? = some z) (hab : Nat.beq a b = false) (h2 : WH P (T.map (·.1)).toArray S (fun _ ρ w => WHG P T S Q [b] (i :: os) ρ w) [y] ρ w) (h3 : WH P (T.map (·.1)).toArray S (fun _ ρ w => WHG P T S Q [a] (i :: os) ρ w) [z] ρ w) : WHG P T S Q [a, b] (i :: os) ρ w := by
  have hne : a ≠ b := fun e => by subst e; simp at hab
  refine F_fork (fun hb' => by rw [hb] at hb'; cases hb') (fun c hc u hu => ?_)
  rcases List.mem_cons.1 hc with hc | hc
  · subst hc; rw [hy] at hu; injection hu with hu; subst hu
    simpa using h2
  · rw [List.mem_singleton] at hc; subst hc
    rw [hz] at hu; injection hu with hu; subst hu
    simpa [hne] using h3
end
end Go.Proofs.YgvadwGreat
