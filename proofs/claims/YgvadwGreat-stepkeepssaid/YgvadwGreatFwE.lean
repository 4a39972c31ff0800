import Derived.Test.YgvadwGreatFwD
import Derived.Orders
set_option linter.unusedSimpArgs false
set_option linter.unusedVariables false
namespace Go.Proofs.YgvadwGreat

/-! a region that draws its order -/
def loudOp : Op → Bool
  | .move _ | .assign _ | .pick .. | .load .. | .nilCheck _ | .binOp .. | .unOp .. | .convert .. | .sliceToArrayPointer .. | .slice .. | .fieldAddr .. | .field .. | .indexAddr .. | .index .. | .extract .. | .build .. => false
  | .call ⟨.builtin .len, _, _⟩ | .call ⟨.builtin .max, _, _⟩ | .call ⟨.builtin .min, _, _⟩ => false
  | _ => true
def isLd : Op → Bool
  | .load .. | .convert .. => true
  | _ => false
abbrev TOp := Oper × Bool

/-- The operations of a region that draws, in one order; the mark of a loud one: S holds behind it. -/
def WH0 (P : Program) (ops : Array Oper) (S : World → Prop) (Q : Post) : List TOp → (Nat → Value) → World → Prop
  | [], ρ, w => Q .normal ρ w
  | (o, b) :: os, ρ, w =>
    if wanted ops o ρ then
      if loudOp o.op then stepo P o ρ w (fun v w' => (b = true → S w') ∧ WH0 P ops S Q os (updo ρ o.dst v) w')
      else ∃ v, (∀ w', (isLd o.op = true → S w') → (execOp (ev ρ) o).run P w' = .ok (.value v) w') ∧ WH0 P ops S Q os (updo ρ o.dst v) w
    else WH0 P ops S Q os (updo ρ o.dst undef) w

structure WH (P : Program) (ops : Array Oper) (S : World → Prop) (Q : Post) (os : List TOp) (ρ : Nat → Value) (w : World) : Prop where
  run : WH0 P ops S Q os ρ w

theorem updo_comm (ρ : Nat → Value) (d e : Option Nat) (v u : Value) (h : ∀ x, d = some x → e ≠ some x) : updo (updo ρ d v) e u = updo (updo ρ e u) d v := by
  cases d with
  | none => rfl
  | some d =>
    cases e with
    | none => rfl
    | some e => exact upd_comm ρ d e v u (fun he => h d rfl (he ▸ rfl))

theorem ev_updo {ρ : Nat → Value} {d : Option Nat} {v : Value} {x : Operand} (h : ∀ t, d = some t → x ≠ .tmp t) : ev (updo ρ d v) x = ev ρ x := by
  cases d with
  | none => rfl
  | some d =>
    cases x with
    | tmp t => exact upd_ne _ _ _ _ (fun e => h d rfl (by rw [e]))
    | _ => rfl

section
variable {P : Program} {ops : Array Oper} {S : World → Prop} {Q : Post}

theorem execOp_updo {o : Oper} {ρ : Nat → Value} {d : Option Nat} {v : Value} (hs : ∀ cs b, o.op ≠ .select cs b) (h : ∀ t, d = some t → t ∉ o.looksAt ops) :
    execOp (ev (updo ρ d v)) o = execOp (ev ρ) o := by
  refine execOp_congr o hs fun x hx => ev_updo fun t ht hxt => h t ht ?_
  subst hxt
  simp only [Oper.looksAt, List.mem_append, List.mem_filterMap]
  left
  exact ⟨.tmp t, by simpa using hx, rfl⟩

theorem wanted_updo {o : Oper} {ρ : Nat → Value} {d : Option Nat} {v : Value} (h : ∀ t, d = some t → t ∉ o.looksAt ops) : wanted ops o (updo ρ d v) = wanted ops o ρ := by
  unfold wanted
  cases hg : o.guard with
  | none => rfl
  | some jw =>
    obtain ⟨j, want⟩ := jw
    simp only
    cases hj : (ops[j]?).bind (·.dst) with
    | none => rfl
    | some t =>
      simp only
      have : updo ρ d v t = ρ t := by
        cases d with
        | none => rfl
        | some e =>
          refine upd_ne _ _ _ _ fun he => h e rfl ?_
          simp only [Oper.looksAt, hg, hj, List.mem_append]
          right
          simp [he]
      rw [this]

theorem stepo_updo {o : Oper} {ρ : Nat → Value} {d : Option Nat} {v : Value} {w : World} {K : Value → World → Prop} (hs : ∀ cs b, o.op ≠ .select cs b) (h : ∀ t, d = some t → t ∉ o.looksAt ops) :
    stepo P o (updo ρ d v) w K = stepo P o ρ w K := by
  unfold stepo; rw [execOp_updo (ops := ops) hs h]

theorem stepo_some {o : Oper} {ρ : Nat → Value} {w : World} {K : Value → World → Prop} (h : stepo P o ρ w K) : ∃ v w', K v w' := by
  unfold stepo at h
  split at h
  · exact ⟨_, _, h⟩
  · exact ⟨_, _, h⟩
  · obtain ⟨e, w', fr, ⟨v, _, hv⟩, _⟩ := h []
    exact ⟨v, w', hv⟩
  · exact h.elim

/-- Two neighbours that may change places. -/
def mayswap (ops : Array Oper) (x y : TOp) : Bool :=
  x.1.apart ops y.1 && !(loudOp x.1.op && loudOp y.1.op) && (match x.1.op with | .select .. => false | _ => true) && (match y.1.op with | .select .. => false | _ => true) &&
  (!(loudOp x.1.op && isLd y.1.op) || x.2) && (!(isLd x.1.op && loudOp y.1.op) || y.2)

theorem swap {o x : TOp} {os : List TOp} {ρ : Nat → Value} {w : World} (hm : mayswap ops o x = true) (h : WH0 P ops S Q (o :: x :: os) ρ w) : WH0 P ops S Q (x :: o :: os) ρ w := by
  obtain ⟨o, bo⟩ := o
  obtain ⟨x, bx⟩ := x
  simp only [mayswap, Bool.and_eq_true, Bool.not_eq_true'] at hm
  obtain ⟨⟨⟨⟨⟨hap, hl⟩, hso⟩, hsx⟩, hb1⟩, hb2⟩ := hm
  obtain ⟨h1, h2, h3⟩ := Oper.apart_spec hap
  have hso' : ∀ cs b, o.op ≠ .select cs b := fun cs b e => by rw [e] at hso; cases hso
  have hsx' : ∀ cs b, x.op ≠ .select cs b := fun cs b e => by rw [e] at hsx; cases hsx
  have hc : ∀ v u, updo (updo ρ o.dst v) x.dst u = updo (updo ρ x.dst u) o.dst v := fun v u => updo_comm ρ o.dst x.dst v u h2
  have wx : ∀ v, wanted ops x (updo ρ o.dst v) = wanted ops x ρ := fun v => wanted_updo h1
  have wo : ∀ u, wanted ops o (updo ρ x.dst u) = wanted ops o ρ := fun u => wanted_updo h3
  have ex : ∀ v, execOp (ev (updo ρ o.dst v)) x = execOp (ev ρ) x := fun v => execOp_updo (ops := ops) hsx' h1
  have eo : ∀ u, execOp (ev (updo ρ x.dst u)) o = execOp (ev ρ) o := fun u => execOp_updo (ops := ops) hso' h3
  have sx : ∀ v w K, stepo P x (updo ρ o.dst v) w K = stepo P x ρ w K := fun v w K => stepo_updo (ops := ops) hsx' h1
  have so : ∀ u w K, stepo P o (updo ρ x.dst u) w K = stepo P o ρ w K := fun u w K => stepo_updo (ops := ops) hso' h3
  simp only [WH0] at h ⊢
  by_cases Wo : wanted ops o ρ = true
  · rw [if_pos Wo] at h
    by_cases Wx : wanted ops x ρ = true
    · rw [if_pos Wx]
      cases Lo : loudOp o.op with
      | true =>
        have Lx : loudOp x.op = false := by
          cases hx : loudOp x.op with
          | false => rfl
          | true => rw [Lo, hx] at hl; cases hl
        rw [Lo] at h
        simp only [if_true, wx, Wx, Lx, Bool.false_eq_true, al_i0, ex] at h ⊢
        obtain ⟨v0, w0, _, u, hu, _⟩ := stepo_some h
        refine ⟨u, hu, ?_⟩
        rw [wo, if_pos Wo, so]
        refine stepo_mono h ?_
        rintro v w' ⟨hS, u', hu', hr⟩
        have hld : isLd x.op = true → S w' := fun hx => hS (by rw [Lo, hx] at hb1; simpa using hb1)
        have e1 := hu w' hld
        have e2 := hu' w' hld
        rw [e1] at e2
        have : u = u' := by simpa using e2
        subst this
        refine ⟨hS, ?_⟩
        rw [← hc]; exact hr
      | false =>
        rw [Lo] at h
        simp only [Bool.false_eq_true, al_i0] at h
        obtain ⟨v, hv, h⟩ := h
        rw [wx, if_pos Wx] at h
        cases Lx : loudOp x.op with
        | true =>
          simp only [Lx, if_true, sx] at h ⊢
          refine stepo_mono h ?_
          rintro u w' ⟨hS, hr⟩
          refine ⟨hS, ?_⟩
          rw [wo, if_pos Wo]
          simp only [eo, Bool.false_eq_true, al_i0]
          exact ⟨v, hv, by rw [← hc]; exact hr⟩
        | false =>
          simp only [Lx, Bool.false_eq_true, al_i0, ex] at h ⊢
          obtain ⟨u, hu, hr⟩ := h
          refine ⟨u, hu, ?_⟩
          rw [wo, if_pos Wo]
          simp only [eo]
          exact ⟨v, hv, by rw [← hc]; exact hr⟩
    · rw [if_neg Wx]
      rw [wo, if_pos Wo]
      cases Lo : loudOp o.op with
      | true =>
        rw [Lo] at h
        simp only [if_true, wx, Wx, so] at h ⊢
        refine stepo_mono h ?_
        rintro v w' ⟨hS, hr⟩
        exact ⟨hS, by rw [← hc]; exact hr⟩
      | false =>
        rw [Lo] at h
        simp only [Bool.false_eq_true, al_i0, wx, Wx, eo] at h ⊢
        obtain ⟨v, hv, hr⟩ := h
        exact ⟨v, hv, by rw [← hc]; exact hr⟩
  · rw [if_neg Wo, wx] at h
    by_cases Wx : wanted ops x ρ = true
    · rw [if_pos Wx] at h ⊢
      cases Lx : loudOp x.op with
      | true =>
        simp only [Lx, if_true, sx] at h ⊢
        refine stepo_mono h ?_
        rintro u w' ⟨hS, hr⟩
        exact ⟨hS, by rw [wo, if_neg Wo, ← hc]; exact hr⟩
      | false =>
        simp only [Lx, Bool.false_eq_true, al_i0, ex] at h ⊢
        obtain ⟨u, hu, hr⟩ := h
        refine ⟨u, hu, ?_⟩
        rw [wo, if_neg Wo, ← hc]; exact hr
    · rw [if_neg Wx] at h ⊢
      rw [wo, if_neg Wo, ← hc]; exact h

theorem WH0_cons_mono {o : TOp} {os os' : List TOp} {ρ : Nat → Value} {w : World} (hm : ∀ ρ w, WH0 P ops S Q os ρ w → WH0 P ops S Q os' ρ w) (h : WH0 P ops S Q (o :: os) ρ w) : WH0 P ops S Q (o :: os') ρ w := by
  obtain ⟨o, b⟩ := o
  simp only [WH0] at h ⊢
  split
  · rename_i hw; rw [if_pos hw] at h
    split
    · rename_i hl; rw [if_pos hl] at h
      exact stepo_mono h fun v w' ⟨hS, hr⟩ => ⟨hS, hm _ _ hr⟩
    · rename_i hl; rw [if_neg hl] at h
      obtain ⟨v, hv, hr⟩ := h
      exact ⟨v, hv, hm _ _ hr⟩
  · rename_i hw; rw [if_neg hw] at h; exact hm _ _ h

/-- An operation comes to the front. -/
theorem front {x : TOp} {os : List TOp} : ∀ (l : List TOp), (∀ o ∈ l, mayswap ops o x = true) → ∀ ρ w, WH0 P ops S Q (l ++ x :: os) ρ w → WH0 P ops S Q (x :: (l ++ os)) ρ w := by
  intro l
  induction l with
  | nil => intro _ ρ w h; exact h
  | cons o l ih =>
    intro hm ρ w h
    have h1 : WH0 P ops S Q (o :: x :: (l ++ os)) ρ w := WH0_cons_mono (ih fun o' ho' => hm o' (by simp [ho'])) h
    exact swap (hm o (by simp)) h1
end

def direct (ops : Array Oper) (i j : Nat) : Bool := ((ops[j]?).map (·.after.any fun e => Region.binds .any e && e.on == i)).getD false
def path (ops : Array Oper) : Nat → Nat → Nat → Bool
  | 0, _, _ => false
  | k + 1, i, j => direct ops i j || ((ops[j]?).map (·.after.any fun e => Region.binds .any e && path ops k i e.on)).getD false

def chkPair (ops : Array Oper) (T : Array TOp) (i j : Nat) : Bool :=
  match T[i]?, T[j]? with
  | some x, some y => (mayswap ops x y || path ops 8 i j) && (!(loudOp x.1.op && isLd y.1.op) || x.2)
  | _, _ => false
def chkOp (ops : Array Oper) (j : Nat) : Bool := ((ops[j]?).map (·.after.all fun e => !Region.binds .any e || Nat.ble (e.on + 1) j)).getD false
def chk (T : List TOp) : Bool :=
  let ops := (T.map (·.1)).toArray
  (List.range T.length).all fun j => chkOp ops j && (List.range j).all fun i => chkPair ops T.toArray i j

theorem path_listed {ops : Array Oper} {listed : Array Bool} (hcl : ∀ j o, ops[j]? = some o → listed.getD j true = true → ∀ e ∈ o.after, Region.binds .any e = true → listed.getD e.on false = true) :
    ∀ (k i j : Nat) (o : Oper), ops[j]? = some o → (∀ e ∈ o.after, Region.binds .any e = true → listed.getD e.on false = true) → path ops k i j = true → listed.getD i false = true := by
  intro k
  induction k with
  | zero => intro i j o _ _ h; simp [path] at h
  | succ k ih =>
    intro i j o ho hall h
    simp only [path, Bool.or_eq_true, direct, ho, Option.map_some, Option.getD_some, Array.any_eq_true] at h
    rcases h with h | h
    · obtain ⟨m, hm, h⟩ := h
      simp only [Bool.and_eq_true, al_be, al_bb, al_bz, al_bu] at h
      have := hall o.after[m] (by simp) h.1
      rw [h.2] at this; exact this
    · obtain ⟨m, hm, h⟩ := h
      simp only [Bool.and_eq_true] at h
      have hl := hall o.after[m] (by simp) h.1
      have hl' : listed.getD (o.after[m]).on true = true := by
        by_cases hb : (o.after[m]).on < listed.size
        · simp [Array.getD, hb] at hl ⊢; exact hl
        · simp [Array.getD, hb] at hl
      cases ho' : ops[(o.after[m]).on]? with
      | none =>
        cases k with
        | zero => simp [path] at h
        | succ k => simp [path, direct, ho'] at h
      | some o' => exact ih i _ o' ho' (hcl _ o' ho' hl') h.2

section
variable {P : Program} {n : Nat} {S : World → Prop} {Q : Post} {T : List TOp}

theorem draw_sound (hchk : chk T = true) (hd : dstsOK n (T.map (·.1)) = true) :
    ∀ (fuel : Nat) (listed : Array Bool) (R : List Nat) (ρ : Nat → Value) (w : World), listed.size = T.length → R = (List.range T.length).filter (fun i => !listed.getD i true) → R.length ≤ fuel →
      (∀ j o, (T.map (·.1)).toArray[j]? = some o → listed.getD j true = true → ∀ e ∈ o.after, Region.binds .any e = true → listed.getD e.on false = true) →
      Und n ρ → (((R.filterMap fun i => T[i]?).any fun o => isLd o.1.op) = true → S w) → WH0 P (T.map (·.1)).toArray S Q (R.filterMap fun i => T[i]?) ρ w →
      wpAny P .any (T.map (·.1)).toArray (lift n Q) fuel listed (act n ρ) w := by
  have hlen : (T.map (·.1)).toArray.size = T.length := by simp
  have hget : ∀ (i : Nat) (x : TOp), T[i]? = some x → (T.map (·.1)).toArray[i]? = some x.1 := by
    intro i x hx; simp [hx]
  have hpair : ∀ i j, i < j → j < T.length → chkOp (T.map (·.1)).toArray j = true ∧ chkPair (T.map (·.1)).toArray T.toArray i j = true := by
    intro i j hij hj
    simp only [chk, List.all_eq_true, List.mem_range, Bool.and_eq_true] at hchk
    exact ⟨(hchk j hj).1, (hchk j hj).2 i hij⟩
  have hop : ∀ j, j < T.length → chkOp (T.map (·.1)).toArray j = true := by
    intro j hj
    simp only [chk, List.all_eq_true, List.mem_range, Bool.and_eq_true] at hchk
    exact (hchk j hj).1
  intro fuel
  induction fuel with
  | zero =>
    intro listed R ρ w hsz hR hf hcl hu hS h
    have : R = [] := by cases R with | nil => rfl | cons x xs => simp at hf
    subst this
    refine ⟨?_, ⟨ρ, hu, rfl, h⟩⟩
    unfold Region.ready
    rw [List.filter_eq_nil_iff]
    intro i hi hc
    simp only [Bool.and_eq_true] at hc
    rw [hlen] at hi
    have : i ∈ (List.range T.length).filter (fun i => !listed.getD i true) := by rw [List.mem_filter]; exact ⟨hi, hc.1⟩
    rw [← hR] at this
    cases this
  | succ fuel ih =>
    intro listed R ρ w hsz hR hf hcl hu hS h
    constructor
    · intro hready
      cases R with
      | nil => exact ⟨ρ, hu, rfl, h⟩
      | cons i R' =>
        exfalso
        have hi : i ∈ (List.range T.length).filter (fun i => !listed.getD i true) := by rw [← hR]; simp
        rw [List.mem_filter, List.mem_range] at hi
        have hin : i ∈ Region.ready .any (T.map (·.1)).toArray listed := by
          unfold Region.ready
          rw [List.mem_filter, List.mem_range, hlen]
          refine ⟨hi.1, ?_⟩
          have hx : T[i]? = some T[i] := by simp [hi.1]
          rw [hget i _ hx]
          simp only [Option.map_some, Option.getD_some, Bool.and_eq_true, hi.2, al_ta, Array.all_eq_true]
          intro m hm
          have hc := hop i hi.1
          simp only [chkOp, hget i _ hx, Option.map_some, Option.getD_some, Array.all_eq_true] at hc
          have hcm := hc m hm
          rw [Bool.or_eq_true] at hcm ⊢
          rcases hcm with hcm | hcm
          · left; exact hcm
          · right
            have hlt : ((T[i]).1.after[m]).on < i := Nat.le_of_ble_eq_true hcm
            cases hb : listed.getD ((T[i]).1.after[m]).on false with
            | true => rfl
            | false =>
              exfalso
              have hmem : ((T[i]).1.after[m]).on ∈ (List.range T.length).filter (fun i => !listed.getD i true) := by
                rw [List.mem_filter, List.mem_range]
                refine ⟨by omega, ?_⟩
                have hlt' : ((T[i]).1.after[m]).on < listed.size := by omega
                simp [Array.getD, hlt'] at hb ⊢; exact hb
              rw [← hR] at hmem
              have hsorted : (i :: R').Pairwise (· < ·) := by rw [hR]; exact List.Pairwise.filter _ List.pairwise_lt_range
              rw [List.pairwise_cons] at hsorted
              rcases List.mem_cons.1 hmem with e | e
              · omega
              · have := hsorted.1 _ e; omega
        rw [hready] at hin; cases hin
    · intro i hi
      unfold Region.ready at hi
      rw [List.mem_filter, List.mem_range, hlen, Bool.and_eq_true] at hi
      obtain ⟨hiT, hnl, hall⟩ := hi
      have hx : T[i]? = some T[i] := by simp [hiT]
      generalize T[i] = ob at hx
      obtain ⟨o, bo⟩ := ob
      have ho := hget i _ hx
      simp only at ho
      rw [ho] at hall
      simp only [Option.map_some, Option.getD_some, Array.all_eq_true] at hall
      have hall' : ∀ e ∈ o.after, Region.binds .any e = true → listed.getD e.on false = true := by
        intro e he hb
        obtain ⟨m, hm, rfl⟩ := Array.mem_iff_getElem.1 he
        have := hall m hm
        simpa [hb] using this
      have hmem : i ∈ R := by rw [hR, List.mem_filter, List.mem_range]; exact ⟨hiT, hnl⟩
      obtain ⟨R1, R2, rfl⟩ := List.append_of_mem hmem
      have hsorted : (R1 ++ i :: R2).Pairwise (· < ·) := by rw [hR]; exact List.Pairwise.filter _ List.pairwise_lt_range
      rw [List.pairwise_append, List.pairwise_cons] at hsorted
      obtain ⟨hs1, ⟨hs2, hs3⟩, hs4⟩ := hsorted
      have hRm : ∀ j ∈ R1 ++ i :: R2, j < T.length ∧ listed.getD j true = false := by
        intro j hj
        rw [hR, List.mem_filter, List.mem_range] at hj
        exact ⟨hj.1, by simpa using hj.2⟩
      have hb1 : ∀ j ∈ R1, ∀ y, T[j]? = some y → mayswap (T.map (·.1)).toArray y (o, bo) = true ∧ ((!(loudOp y.1.op && isLd o.op) || y.2) = true) := by
        intro j hj y hy
        have hji : j < i := hs4 j hj i (by simp)
        have hp := (hpair j i hji hiT).2
        simp only [chkPair, List.getElem?_toArray, hy, hx, Bool.and_eq_true, Bool.or_eq_true] at hp
        refine ⟨?_, by simpa using hp.2⟩
        rcases hp.1 with hp | hp
        · exact hp
        · exfalso
          have := path_listed hcl 8 j i o ho hall' hp
          have hj' := (hRm j (by simp [hj])).2
          have hlt : j < listed.size := by have := (hRm j (by simp [hj])).1; omega
          simp [Array.getD, hlt] at this hj'
          rw [this] at hj'; cases hj'
      have hb2 : ∀ j ∈ R2, ∀ y, T[j]? = some y → (!(loudOp o.op && isLd y.1.op) || bo) = true := by
        intro j hj y hy
        have hij : i < j := hs2 j hj
        have hjT : j < T.length := (hRm j (by simp [hj])).1
        have hp := (hpair i j hij hjT).2
        simp only [chkPair, List.getElem?_toArray, hy, hx, Bool.and_eq_true] at hp
        exact hp.2
      have hfm : (R1 ++ i :: R2).filterMap (fun i => T[i]?) = R1.filterMap (fun i => T[i]?) ++ (o, bo) :: R2.filterMap (fun i => T[i]?) := by
        simp [List.filterMap_append, hx]
      rw [hfm] at h hS
      have hfront : WH0 P (T.map (·.1)).toArray S Q ((o, bo) :: (R1.filterMap (fun i => T[i]?) ++ R2.filterMap (fun i => T[i]?))) ρ w := by
        refine front _ ?_ ρ w h
        intro y hy
        rw [List.mem_filterMap] at hy
        obtain ⟨j, hj, hy⟩ := hy
        exact (hb1 j hj y hy).1
      have hfm' : R1.filterMap (fun i => T[i]?) ++ R2.filterMap (fun i => T[i]?) = (R1 ++ R2).filterMap (fun i => T[i]?) := by simp [List.filterMap_append]
      rw [hfm'] at hfront
      have hdst : ∀ d, o.dst = some d → d < n := by
        intro d hdd
        simp only [dstsOK, List.all_eq_true] at hd
        have := hd o (by rw [List.mem_map]; exact ⟨(o, bo), List.mem_of_getElem? hx, rfl⟩)
        rw [hdd] at this
        exact Nat.le_of_ble_eq_true this
      have hput : ∀ v, (act n ρ).put o.dst v = act n (updo ρ o.dst v) := by
        intro v
        cases hdd : o.dst with
        | none => rfl
        | some d => exact act_put v
      have hilt : i < listed.size := by omega
      have hR' : R1 ++ R2 = (List.range T.length).filter (fun j => !(listed.setIfInBounds i true).getD j true) := by
        have e1 : (List.range T.length).filter (fun j => !(listed.setIfInBounds i true).getD j true) = ((List.range T.length).filter (fun j => !listed.getD j true)).filter (fun j => j != i) := by
          rw [List.filter_filter]
          refine List.filter_congr ?_
          intro j hj
          rw [List.mem_range] at hj
          by_cases hji : j = i
          · subst hji; simp [Array.getD, hilt]
          · have hjl : j < listed.size := by omega
            have : (listed.setIfInBounds i true).getD j true = listed.getD j true := by
              simp [Array.getD, hjl, Array.getElem_setIfInBounds_ne hjl (fun e => hji e.symm)]
            rw [this]; simp [hji]
        rw [e1, ← hR, List.filter_append, List.filter_cons]
        simp only [al_sn, al_sm, Bool.false_eq_true, al_i0]
        rw [List.filter_eq_self.2, List.filter_eq_self.2]
        · intro j hj; have := hs2 j hj; simp; omega
        · intro j hj; have := hs4 j hj i (by simp); simp; omega
      have hcl' : ∀ j o', (T.map (·.1)).toArray[j]? = some o' → (listed.setIfInBounds i true).getD j true = true → ∀ e ∈ o'.after, Region.binds .any e = true → (listed.setIfInBounds i true).getD e.on false = true := by
        intro j o' ho' hl e he hb
        have hmono : listed.getD e.on false = true → (listed.setIfInBounds i true).getD e.on false = true := by
          intro h0
          by_cases hei : e.on = i
          · rw [hei]; simp [Array.getD, hilt]
          · by_cases hel : e.on < listed.size
            · simp [Array.getD, hel, Array.getElem_setIfInBounds_ne hel (fun x => hei x.symm)] at h0 ⊢; exact h0
            · simp [Array.getD, hel] at h0
        apply hmono
        by_cases hji : j = i
        · subst hji; rw [ho] at ho'; cases ho'; exact hall' e he hb
        · refine hcl j o' ho' ?_ e he hb
          by_cases hjl : j < listed.size
          · simp [Array.getD, hjl, Array.getElem_setIfInBounds_ne hjl (fun x => hji x.symm)] at hl ⊢; exact hl
          · simp [Array.getD, hjl]
      have next : ∀ ρ' w', Und n ρ' → (((R1 ++ R2).filterMap (fun i => T[i]?)).any (fun o => isLd o.1.op) = true → S w') → WH0 P (T.map (·.1)).toArray S Q ((R1 ++ R2).filterMap fun i => T[i]?) ρ' w' →
          wpAny P .any (T.map (·.1)).toArray (lift n Q) fuel (listed.setIfInBounds i true) (act n ρ') w' := by
        intro ρ' w' hu' hS' h'
        exact ih (listed.setIfInBounds i true) (R1 ++ R2) ρ' w' (by simp; exact hsz) hR' (by simp at hf ⊢; omega) hcl' hu' hS' h'
      have hSrest : ((R1 ++ R2).filterMap (fun i => T[i]?)).any (fun o => isLd o.1.op) = true → S w := by
        intro hh
        refine hS ?_
        rw [List.filterMap_append, List.any_append, Bool.or_eq_true] at hh
        rw [List.any_append, List.any_cons, Bool.or_eq_true, Bool.or_eq_true]
        rcases hh with hh | hh
        · exact Or.inl hh
        · exact Or.inr (Or.inr hh)
      unfold wpOp
      rw [ho]
      simp only
      rw [wanted_eq _ o hu]
      simp only [WH0] at hfront
      split
      · rename_i hw
        rw [if_pos hw] at hfront
        left
        split at hfront
        · rename_i hloud
          refine wp_of_stepo hu hdst (stepo_mono hfront ?_)
          rintro v w' ⟨hSv, hr⟩
          refine next _ _ (hu.updo hdst) ?_ hr
          intro hh
          refine hSv ?_
          rw [List.any_eq_true] at hh
          obtain ⟨y, hy, hyl⟩ := hh
          rw [List.mem_filterMap] at hy
          obtain ⟨j, hj, hy⟩ := hy
          rcases List.mem_append.1 hj with hj | hj
          · have := (hb1 j hj y hy).1
            simp only [mayswap, Bool.and_eq_true] at this
            have h6 := this.2
            simpa [hyl, hloud] using h6
          · have := hb2 j hj y hy
            simpa [hyl, hloud] using this
        · rename_i hloud
          obtain ⟨v, hv, hr⟩ := hfront
          have hrun : (execOp (ev ρ) o).run P w = .ok (.value v) w := hv w (fun hl => hS (by
            rw [List.any_append, List.any_cons, Bool.or_eq_true, Bool.or_eq_true]; exact Or.inr (Or.inl hl)))
          refine wp_of_stepo hu hdst ?_
          unfold stepo
          rw [hrun]
          exact next _ _ (hu.updo hdst) hSrest hr
      · rename_i hw
        rw [if_neg hw] at hfront
        rw [hput]
        exact next _ _ (hu.updo hdst) hSrest hfront

theorem W_draw {id : Nat} {ops : List Oper} (T : List TOp) {ρ : Nat → Value} {w : World} (S : World → Prop) (hm : P.follows .mixedOrders = true) (hT : T.map (·.1) = ops) (hchk : chk T = true) (hd : dstsOK n ops = true)
    (hS : S w.drew) (h : WH P ops.toArray S Q T ρ w.drew) : W P n (.region id ops.toArray true) Q ρ w := by
  subst hT
  refine ⟨fun hu => wp_region_any hm ?_⟩
  have hsz : (T.map (·.1)).toArray.size = T.length := by simp
  rw [hsz]
  have hR : List.range T.length = (List.range T.length).filter (fun i => !(Array.replicate T.length false).getD i true) := by
    symm; rw [List.filter_eq_self]
    intro j hj; rw [List.mem_range] at hj; simp [Array.getD, hj]
  have hfm : (List.range T.length).filterMap (fun i => T[i]?) = T := by
    refine List.ext_getElem? ?_
    intro j
    have key : ∀ (l : List Nat), (∀ i ∈ l, i < T.length) → l.filterMap (fun i => T[i]?) = l.map (fun i => T.getD i (default, false)) := by
      intro l
      induction l with
      | nil => intro _; rfl
      | cons a l ihl =>
        intro hl
        have ha : a < T.length := hl a (by simp)
        rw [List.filterMap_cons, List.map_cons, ihl fun i hi => hl i (by simp [hi])]
        simp [ha]
    rw [key _ fun i hi => List.mem_range.1 hi]
    by_cases hj : j < T.length
    · simp [hj]
    · simp [hj]
  refine draw_sound hchk hd T.length (Array.replicate T.length false) (List.range T.length) ρ w.drew (by simp) hR (by simp) ?_ hu (fun _ => hS) ?_
  · intro j o ho hl
    have : j < T.length := by
      rcases Nat.lt_or_ge j T.length with h' | h'
      · exact h'
      · simp [List.getElem?_eq_none h'] at ho
    simp [Array.getD, this] at hl
  · rw [hfm]; exact h.run
end
end Go.Proofs.YgvadwGreat
