import Derived.Calls
import Derived.Scope
set_option linter.unusedSimpArgs false
set_option linter.unusedVariables false
namespace Go.Proofs.YgvadwGreat

/-! facts of the core by names of our own -/
theorem al_ne.{u} {α : Sort u} (a b : α) : (a ≠ b) = ¬(a = b) := rfl
theorem al_dfn {p : Prop} {_ : Decidable p} : decide p = false ↔ ¬p := by by_cases h : p <;> simp [h]
theorem al_dd {p q : Prop} {_ : Decidable p} {_ : Decidable q} : decide p = decide q ↔ (p ↔ q) := by by_cases h : p <;> by_cases h2 : q <;> simp [h, h2]
theorem al_nt : (¬True) = False := by simp
theorem al_nf : (¬False) = True := by simp
theorem al_df (h : Decidable False) : @decide False h = false := by simp
theorem al_dt (h : Decidable True) : @decide True h = true := by simp
theorem al_as (p : Prop) : (p ∧ p) = p := by simp
theorem al_aa {a b c : Prop} : (a ∧ b) ∧ c ↔ a ∧ (b ∧ c) := ⟨fun h => ⟨h.1.1, h.1.2, h.2⟩, fun h => ⟨⟨h.1, h.2.1⟩, h.2.2⟩⟩
theorem al_af (p : Prop) : (p ∧ False) = False := by simp
theorem al_ta (p : Prop) : (True ∧ p) = p := by simp
theorem al_of (p : Prop) : (p ∨ False) = p := by simp
theorem al_no {p q : Prop} : ¬(p ∨ q) ↔ ¬p ∧ ¬q := ⟨fun h => ⟨fun a => h (Or.inl a), fun a => h (Or.inr a)⟩, fun h a => by rcases a with a | a; exact h.1 a; exact h.2 a⟩
theorem al_dn {p : Prop} [Decidable p] [Decidable (¬p)] : decide (¬p) = !(decide p) := by by_cases h : p <;> simp [h]
theorem al_px {a b : Prop} (h : a ↔ b) : a = b := by rw [h]
theorem al_bnt : (!true) = false := rfl
theorem al_bnf : (!false) = true := rfl
theorem al_baa (a b c : Bool) : (a && b && c) = (a && (b && c)) := by cases a <;> rfl
theorem al_bac (a b : Bool) : (a && b) = (b && a) := by cases a <;> cases b <;> rfl
theorem al_baf (a : Bool) : (a && false) = false := by cases a <;> rfl
theorem al_bfa (a : Bool) : (false && a) = false := rfl
theorem al_bta (a : Bool) : (true && a) = a := rfl
theorem al_bot (a : Bool) : (a || true) = true := by cases a <;> rfl
theorem al_bto (a : Bool) : (true || a) = true := rfl
theorem al_bof (a : Bool) : (a || false) = a := by cases a <;> rfl
theorem al_bfo (a : Bool) : (false || a) = a := rfl
theorem al_bft : false ≠ true := by decide
theorem al_bi {a b : Bool} : a = b ↔ (a = true ↔ b = true) := by cases a <;> cases b <;> simp
theorem al_noc (a b : Nat) : a ||| b = b ||| a := by apply Nat.eq_of_testBit_eq; intro i; rw [Nat.testBit_or, Nat.testBit_or]; cases a.testBit i <;> cases b.testBit i <;> rfl
theorem al_noa (a b c : Nat) : a ||| b ||| c = a ||| (b ||| c) := by apply Nat.eq_of_testBit_eq; intro i; rw [Nat.testBit_or, Nat.testBit_or, Nat.testBit_or, Nat.testBit_or]; cases a.testBit i <;> rfl
theorem al_voc {n : Nat} (a b : BitVec n) : a ||| b = b ||| a := by apply BitVec.eq_of_toNat_eq; rw [BitVec.toNat_or, BitVec.toNat_or, al_noc]
theorem al_ss (a : Bool) : (a == a) = true := by simp
theorem al_sn (a : Nat) : (a != a) = false := by simp
theorem al_sm (a : Bool) : (a != a) = false := by simp
theorem al_mpb {α β : Type} (f : α → β) (x : Sem α) : f <$> x = x >>= fun a => pure (f a) := rfl

theorem al_et {p : Prop} [Decidable p] (h : p) : decide p = true := by simp [h]
theorem al_ef {p : Prop} [Decidable p] (h : ¬p) : decide p = false := by simp [h]
theorem al_ete {p : Prop} [Decidable p] : (decide p = true) = p := by simp
theorem al_od {p : Prop} [Decidable p] (h : decide p = false) : ¬p := by simpa using h
theorem al_i0.{u} {α : Sort u} {_ : Decidable False} (t e : α) : (if False then t else e) = e := if_neg (fun h => h)
theorem al_dp.{u} {c : Prop} {_ : Decidable c} (hc : c) {α : Sort u} {t : c → α} {e : ¬c → α} : (if h : c then t h else e h) = t hc := by split; rfl; exact absurd hc (by assumption)
theorem al_be {a b : Nat} : (a == b) = true ↔ a = b := by simp
theorem al_bb {a b : Bool} : (a == b) = true ↔ a = b := by simp
theorem al_bz {a b : Int} : (a == b) = true ↔ a = b := by simp
theorem al_bu {a b : UInt8} : (a == b) = true ↔ a = b := by simp
theorem al_ge.{u} {α : Type u} {l : List α} {i : Nat} {a : α} (h : l[i]? = some a) : i < l.length := by
  rcases Nat.lt_or_ge i l.length with h1 | h1
  · exact h1
  · rw [List.getElem?_eq_none h1] at h; cases h
theorem al_cd.{u, v, w} {α : Sort u} {β : Sort v} {δ : Sort w} (f : β → δ) (g : α → β) : f ∘ g = fun x => f (g x) := rfl
theorem al_ns.{u} {α : Sort u} {a b : α} (h : a ≠ b) : b ≠ a := fun e => h e.symm
theorem al_es.{u} {α : Sort u} {a b : α} (h : a = b) : b = a := h.symm
theorem al_ar {a b : Prop} (h : a ∧ b) : b := h.2
theorem al_nn {a : Prop} : ¬¬a ↔ a := by by_cases h : a <;> simp [h]

/-! frames as functions -/
def upd (ρ : Nat → Value) (d : Nat) (v : Value) : Nat → Value := fun t => cond (Nat.beq t d) v (ρ t)

def ev (ρ : Nat → Value) : Operand → Value
  | .tmp t => ρ t
  | .const v => v
  | .global g => .pointer (some ⟨g, 0, none⟩)
  | .func f => .func (.func f) #[] #[]

def act (n : Nat) (ρ : Nat → Value) : Act := { tmps := Array.ofFn (n := n) (fun i => ρ i.val), defers := [] }

def Und (n : Nat) (ρ : Nat → Value) : Prop := ∀ t, n ≤ t → ρ t = undef

theorem upd_same (ρ : Nat → Value) (d : Nat) (v : Value) : upd ρ d v d = v := by simp [upd]
theorem upd_ne (ρ : Nat → Value) (d t : Nat) (v : Value) (h : t ≠ d) : upd ρ d v t = ρ t := by
  have : Nat.beq t d = false := by
    cases hb : Nat.beq t d
    · rfl
    · exact absurd (Nat.eq_of_beq_eq_true hb) h
  simp [upd, this]
theorem upd_comm (ρ : Nat → Value) (d e : Nat) (v u : Value) (h : d ≠ e) : upd (upd ρ d v) e u = upd (upd ρ e u) d v := by
  funext t
  by_cases h1 : t = d
  · subst h1; rw [upd_ne _ _ _ _ h, upd_same, upd_same]
  · by_cases h2 : t = e
    · subst h2; rw [upd_same, upd_ne _ _ _ _ h1, upd_same]
    · rw [upd_ne _ _ _ _ h2, upd_ne _ _ _ _ h1, upd_ne _ _ _ _ h1, upd_ne _ _ _ _ h2]

theorem act_get (n : Nat) (ρ : Nat → Value) (t : Nat) (h : t < n) : (act n ρ).tmps[t]? = some (ρ t) := by
  simp [act, h]
theorem act_eval {n : Nat} {ρ : Nat → Value} (h : Und n ρ) : (act n ρ).eval = ev ρ := by
  funext x
  cases x with
  | tmp t =>
    by_cases ht : t < n
    · simp [Act.eval, ev, act, ht, Array.getD]
    · have h0 : ρ t = undef := h t (Nat.le_of_not_lt ht)
      simp [Act.eval, ev, act, ht, Array.getD, h0]
  | const v => rfl
  | global g => rfl
  | func f => rfl

theorem act_put {n : Nat} {ρ : Nat → Value} {d : Nat} (v : Value) : (act n ρ).put (some d) v = act n (upd ρ d v) := by
  simp only [Act.put, act, Act.mk.injEq, and_true]
  refine Array.ext (by simp) ?_
  intro i h1 h2
  simp only [Array.size_setIfInBounds, Array.size_ofFn] at h1
  by_cases hi : d = i
  · subst hi; simp [upd_same]
  · rw [Array.getElem_setIfInBounds_ne (by simpa using h1) hi]; simp [upd_ne ρ d i v (fun h => hi h.symm)]

def updo (ρ : Nat → Value) (d : Option Nat) (v : Value) : Nat → Value := match d with | some d => upd ρ d v | none => ρ

theorem Und.upd {n : Nat} {ρ : Nat → Value} {d : Nat} {v : Value} (h : Und n ρ) (hd : d < n) : Und n (upd ρ d v) := by
  intro t ht; rw [upd_ne _ _ _ _ (by omega)]; exact h t ht

abbrev Post := Exit → (Nat → Value) → World → Prop

def lift (n : Nat) (Q : Post) : Exit → Act → World → Prop := fun e a w => ∃ ρ, Und n ρ ∧ a = act n ρ ∧ Q e ρ w

/-- The judgement: the code, run from the frame ρ in the world w, comes to Q. -/
structure W (P : Program) (n : Nat) (c : Code) (Q : Post) (ρ : Nat → Value) (w : World) : Prop where
  run : Und n ρ → c.wp P (lift n Q) (act n ρ) w

def thn (K : (Nat → Value) → World → Prop) (Q : Post) : Post
  | .normal, ρ, w => K ρ w
  | e, ρ, w => Q e ρ w

def inBlk (id : Nat) (Q : Post) : Post
  | .exit id', ρ, w => if id' = id then Q .normal ρ w else Q (.exit id') ρ w
  | e, ρ, w => Q e ρ w

section
variable {P : Program} {n : Nat} {Q : Post} {ρ : Nat → Value} {w : World}

theorem W_mono {c : Code} {Q' : Post} (h : W P n c Q ρ w) (hq : ∀ e ρ w, Q e ρ w → Q' e ρ w) : W P n c Q' ρ w :=
  ⟨fun hu => wp_mono (h.run hu) fun _ _ _ ⟨ρ', hu', ha, hQ⟩ => ⟨ρ', hu', ha, hq _ _ _ hQ⟩⟩

theorem W_seq {x y : Code} (h : W P n x (thn (fun ρ w => W P n y Q ρ w) Q) ρ w) : W P n (.seq x y) Q ρ w := by
  refine ⟨fun hu => ?_⟩
  refine wp_seq (wp_mono (h.run hu) ?_)
  rintro e a w' ⟨ρ', hu', rfl, hQ⟩
  cases e with
  | normal => exact hQ.run hu'
  | _ => exact ⟨ρ', hu', rfl, hQ⟩

theorem W_skip (h : Q .normal ρ w) : W P n .skip Q ρ w := ⟨fun hu => wp_skip ⟨ρ, hu, rfl, h⟩⟩
theorem W_label {l : Nat} (h : Q .normal ρ w) : W P n (.label l) Q ρ w := ⟨fun hu => wp_label ⟨ρ, hu, rfl, h⟩⟩
theorem W_ret (h : Q .ret ρ w) : W P n .ret Q ρ w := ⟨fun hu => wp_ret ⟨ρ, hu, rfl, h⟩⟩
theorem W_exit {id : Nat} (h : Q (.exit id) ρ w) : W P n (.exit id) Q ρ w := ⟨fun hu => wp_exit ⟨ρ, hu, rfl, h⟩⟩
theorem W_block {id : Nat} {c : Code} (h : W P n c (inBlk id Q) ρ w) : W P n (.block id c) Q ρ w := by
  refine ⟨fun hu => ?_⟩
  refine wp_block (wp_mono (h.run hu) ?_)
  rintro e a w' ⟨ρ', hu', rfl, hQ⟩
  cases e with
  | exit id' =>
    simp only [inBlk, Exit.inBlock] at hQ ⊢
    by_cases hid : id' = id
    · simp only [hid, if_true] at hQ ⊢; exact ⟨ρ', hu', rfl, hQ⟩
    · simp only [hid, al_i0] at hQ ⊢; exact ⟨ρ', hu', rfl, hQ⟩
  | _ => exact ⟨ρ', hu', rfl, hQ⟩

theorem W_cond {c : Operand} {x y : Code} {b : Bool} (hc : ev ρ c = .bool b) (ht : b = true → W P n x Q ρ w) (hf : b = false → W P n y Q ρ w) :
    W P n (.cond c x y) Q ρ w := by
  refine ⟨fun hu => ?_⟩
  cases b with
  | true => exact wp_cond_true (by rw [act_eval hu]; exact hc) ((ht rfl).run hu)
  | false => exact wp_cond_false (by rw [act_eval hu]; exact hc) ((hf rfl).run hu)

theorem W_condD {c : Operand} {x y : Code} (p : Prop) [Decidable p] (hc : ev ρ c = .bool (decide p)) (ht : p → W P n x Q ρ w) (hf : ¬ p → W P n y Q ρ w) :
    W P n (.cond c x y) Q ρ w :=
  W_cond hc (fun h => ht (of_decide_eq_true h)) (fun h => hf (al_od h))

theorem W_loop {c : Code} (I : (Nat → Value) → World → Prop) (μ : (Nat → Value) → World → Nat) (h0 : I ρ w)
    (round : ∀ ρ w, I ρ w → W P n c (thn (fun ρ' w' => I ρ' w' ∧ μ ρ' w' < μ ρ w) Q) ρ w) : W P n (.loop c) Q ρ w := by
  refine ⟨fun hu => ?_⟩
  refine wp_loop (fun a w => ∃ ρ, Und n ρ ∧ a = act n ρ ∧ I ρ w) (fun a w => μ (fun t => a.tmps.getD t undef) w) ⟨ρ, hu, rfl, h0⟩ ?_
  have key : ∀ ρ, Und n ρ → (fun t => (act n ρ).tmps.getD t undef) = ρ := fun ρ h => by
    funext t; exact congrArg (fun g => g (.tmp t)) (act_eval h)
  rintro a w ⟨ρ, hu, rfl, hI⟩
  refine wp_mono ((round ρ w hI).run hu) ?_
  rintro e a w' ⟨ρ', hu', rfl, hQ⟩
  cases e with
  | normal => exact ⟨⟨ρ', hu', rfl, hQ.1⟩, by rw [key ρ hu, key ρ' hu']; exact hQ.2⟩
  | _ => exact ⟨ρ', hu', rfl, hQ⟩

/-- Cut: go on from any frame and world of which R is known. -/
theorem W_cut {x y : Code} (R : (Nat → Value) → World → Prop) (h : W P n x (thn R Q) ρ w) (h' : ∀ ρ w, R ρ w → W P n y Q ρ w) : W P n (.seq x y) Q ρ w := by
  refine W_seq (W_mono h ?_)
  intro e ρ' w' hq
  cases e with
  | normal => exact h' _ _ hq
  | _ => exact hq
end

/-! the operations of a region, in the order of the text -/
def stepo (P : Program) (o : Oper) (ρ : Nat → Value) (w : World) (K : Value → World → Prop) : Prop :=
  match (execOp (ev ρ) o).run P w with
  | .ok (.value v) w' => K v w'
  | .ok .skip w' => K undef w'
  | .ok (.enter f args) w' => Calls P f args w' fun e w'' => ∃ v, e = .returned v ∧ K v w''
  | _ => False

def wanted (ops : Array Oper) (o : Oper) (ρ : Nat → Value) : Bool :=
  match o.guard with
  | none => true
  | some (j, want) => match (ops[j]?).bind (·.dst) with
    | some t => (match ρ t with | .bool b => b == want | _ => false)
    | none => false

def WO0 (P : Program) (ops : Array Oper) (Q : Post) : List Oper → (Nat → Value) → World → Prop
  | [], ρ, w => Q .normal ρ w
  | o :: os, ρ, w => if wanted ops o ρ then stepo P o ρ w (fun v w' => WO0 P ops Q os (updo ρ o.dst v) w') else WO0 P ops Q os (updo ρ o.dst undef) w

structure WO (P : Program) (ops : Array Oper) (Q : Post) (os : List Oper) (ρ : Nat → Value) (w : World) : Prop where
  run : WO0 P ops Q os ρ w

def dstsOK (n : Nat) (ops : List Oper) : Bool := ops.all fun o => match o.dst with | some d => Nat.ble (d+1) n | none => true

theorem wanted_eq {n : Nat} {ρ : Nat → Value} (ops : Array Oper) (o : Oper) (hu : Und n ρ) : Region.wanted o (yielded ops (act n ρ).tmps) = wanted ops o ρ := by
  unfold Region.wanted wanted yielded
  cases o.guard with
  | none => rfl
  | some jw =>
    obtain ⟨j, want⟩ := jw
    simp only
    cases h : (ops[j]?).bind (·.dst) with
    | none => simp
    | some t =>
      simp only [Option.bind_some]
      by_cases ht : t < n
      · rw [act_get n ρ t ht]; cases ρ t <;> simp
      · have : (act n ρ).tmps[t]? = none := by simp [act, ht]
        rw [this, hu t (Nat.le_of_not_lt ht)]; simp [undef]

theorem stepo_mono {P : Program} {o : Oper} {ρ : Nat → Value} {w : World} {K K' : Value → World → Prop} (h : stepo P o ρ w K) (hk : ∀ v w, K v w → K' v w) : stepo P o ρ w K' := by
  unfold stepo at h ⊢
  split at h
  · exact hk _ _ h
  · exact hk _ _ h
  · exact h.mono fun e w' ⟨v, he, hv⟩ => ⟨v, he, hk _ _ hv⟩
  · exact h.elim

theorem wp_of_stepo {P : Program} {o : Oper} {n : Nat} {ρ : Nat → Value} {w : World} {next : Act → World → Prop} {Q : Exit → Act → World → Prop}
    (hu : Und n ρ) (hd : ∀ d, o.dst = some d → d < n) (h : stepo P o ρ w (fun v w' => next (act n (updo ρ o.dst v)) w')) : o.wp P (act n ρ) w next Q := by
  have hput : ∀ v, (act n ρ).put o.dst v = act n (updo ρ o.dst v) := by
    intro v
    cases ho : o.dst with
    | none => rfl
    | some d => exact act_put v
  unfold Oper.wp
  rw [act_eval hu]
  unfold stepo at h
  split at h
  · rename_i v w' hr; rw [hr]; simp only [Oper.upon]; rw [hput]; exact h
  · rename_i w' hr; rw [hr]; simp only [Oper.upon]; rw [hput]; exact h
  · rename_i f args w' hr; rw [hr]; simp only [Oper.upon]
    refine h.mono ?_
    rintro e w'' ⟨v, rfl, hv⟩
    simp only; rw [hput]; exact hv
  · exact h.elim

theorem Und.updo {n : Nat} {ρ : Nat → Value} {d : Option Nat} {v : Value} (h : Und n ρ) (hd : ∀ e, d = some e → e < n) : Und n (updo ρ d v) := by
  cases d with
  | none => exact h
  | some d => exact h.upd (hd d rfl)

theorem dsts_of {n : Nat} {o : Oper} {os : List Oper} (h : dstsOK n (o :: os) = true) : (∀ d, o.dst = some d → d < n) ∧ dstsOK n os = true := by
  simp only [dstsOK, List.all_cons, Bool.and_eq_true] at h
  refine ⟨?_, h.2⟩
  intro d hd
  have := h.1
  rw [hd] at this
  simp only at this
  exact Nat.le_of_ble_eq_true this

/-- A list of places of a region, run as WO says. -/
theorem wpOps_of_WO {P : Program} {n : Nat} {ops : Array Oper} {Q : Post} : ∀ (l : List Nat) (os : List Oper), (l.map fun i => ops[i]?) = os.map some → dstsOK n os = true →
    ∀ ρ w, Und n ρ → WO0 P ops Q os ρ w → wpOps P ops (lift n Q) l (act n ρ) w := by
  intro l
  induction l with
  | nil =>
    intro os hos _ ρ w hu h
    cases os with
    | nil => exact ⟨ρ, hu, rfl, h⟩
    | cons o os => simp at hos
  | cons i l ih =>
    intro os hos hd ρ w hu h
    cases os with
    | nil => simp at hos
    | cons o os =>
      simp only [List.map_cons, List.cons.injEq] at hos
      obtain ⟨ho, hos⟩ := hos
      obtain ⟨hd1, hd2⟩ := dsts_of hd
      simp only [wpOps, ho]
      rw [wanted_eq ops o hu]
      simp only [WO0] at h
      split
      · rename_i hw; rw [if_pos hw] at h
        left
        refine wp_of_stepo hu hd1 (stepo_mono h ?_)
        intro v w' hv
        exact ih os hos hd2 _ _ (hu.updo hd1) hv
      · rename_i hw; rw [if_neg hw] at h
        have hput : (act n ρ).put o.dst undef = act n (updo ρ o.dst undef) := by
          cases ho : o.dst with
          | none => rfl
          | some d => exact act_put _
        rw [hput]
        exact ih os hos hd2 _ _ (hu.updo hd1) h

theorem range_map (ops : Array Oper) : ((List.range ops.size).map fun i => ops[i]?) = ops.toList.map some := by
  refine List.ext_getElem? ?_
  intro i
  by_cases hi : i < ops.size
  · simp [hi]
  · simp [hi]

theorem W_region {P : Program} {n : Nat} {id : Nat} {ops : List Oper} {Q : Post} {ρ : Nat → Value} {w : World} (hd : dstsOK n ops = true)
    (h : WO P ops.toArray Q ops ρ w) : W P n (.region id ops.toArray false) Q ρ w := by
  refine ⟨fun hu => ?_⟩
  refine wp_region (wpOps_of_WO _ ops (by rw [range_map]) hd ρ w hu h.run)

/-- The region and what follows it, in one. -/
theorem W_rseq {P : Program} {n : Nat} {id : Nat} {ops : List Oper} {y : Code} {Q : Post} {ρ : Nat → Value} {w : World} (hd : dstsOK n ops = true)
    (h : WO P ops.toArray (thn (fun ρ w => W P n y Q ρ w) Q) ops ρ w) : W P n (.seq (.region id ops.toArray false) y) Q ρ w :=
  W_seq (W_region hd h)

theorem WO_nil {P : Program} {ops : Array Oper} {Q : Post} {ρ : Nat → Value} {w : World} (h : Q .normal ρ w) : WO P ops Q [] ρ w := ⟨h⟩

theorem WO_cons {P : Program} {ops : Array Oper} {Q : Post} {d : Option Nat} {op : Op} {t : TypeId} {pos : String} {af : Array Edge} {os : List Oper} {ρ : Nat → Value} {w : World}
    (h : stepo P ⟨d, op, t, pos, af, none⟩ ρ w (fun v w' => WO P ops Q os (updo ρ d v) w')) : WO P ops Q (⟨d, op, t, pos, af, none⟩ :: os) ρ w := by
  refine ⟨?_⟩
  simp only [WO0, wanted, if_true]; exact stepo_mono h fun _ _ h => h.run

/-- The whole function. -/
def bodyQ (P : Program) (fn : Func) (n : Nat) (R : Value → World → Prop) : Post
  | .normal, ρ, w | .ret, ρ, w => ∃ v, (results fn (act n ρ).tmps).run P w = .ok v w ∧ R v w
  | _, _, _ => False

structure Ret (P : Program) (f : FuncId) (args : Array Value) (w : World) (R : Value → World → Prop) : Prop where
  run : Calls P f args w fun e w' => ∃ v, e = .returned v ∧ R v w'

theorem Ret.mono {P : Program} {f : FuncId} {args : Array Value} {w : World} {R R' : Value → World → Prop} (h : Ret P f args w R) (hr : ∀ v w', R v w' → R' v w') : Ret P f args w R' :=
  ⟨Calls.mono h.run fun _ _ ⟨v, he, hv⟩ => ⟨v, he, hr _ _ hv⟩⟩

def frameFrom (i : Nat) : List Value → Nat → Value
  | [] => fun _ => undef
  | v :: vs => upd (frameFrom (i + 1) vs) i v
def frame (args : List Value) : Nat → Value := frameFrom 0 args
theorem frameFrom_eq (args : List Value) (i t : Nat) : frameFrom i args (i + t) = args.getD t undef := by
  induction args generalizing i t with
  | nil => simp [frameFrom]
  | cons v vs ih =>
    cases t with
    | zero => simp [frameFrom, upd_same]
    | succ t =>
      rw [frameFrom, upd_ne _ _ _ _ (by omega), show i + (t + 1) = (i + 1) + t by omega, ih]; simp
theorem frame_eq (args : List Value) (t : Nat) : frame args t = args.getD t undef := by
  have := frameFrom_eq args 0 t
  rwa [Nat.zero_add] at this

theorem Ret_of_W {P : Program} {f : FuncId} {fn : Func} {c : Code} {args : List Value} {w : World} {R : Value → World → Prop}
    (hf : P.funcs[f]? = some fn) (hb : fn.body = some c) (hn' : Nat.ble args.length fn.ntmps = true)
    (h : W P fn.ntmps c (bodyQ P fn fn.ntmps R) (frame args) w) : Ret P f args.toArray w R := by
  have hn : args.length ≤ fn.ntmps := Nat.le_of_ble_eq_true hn'
  have hu : Und fn.ntmps (frame args) := by
    intro t ht
    simp [frame_eq, List.getD, List.getElem?_eq_none (show args.length ≤ t by omega)]
  have hact : (act fn.ntmps (frame args)) = { tmps := args.toArray ++ Array.replicate (fn.ntmps - args.toArray.size) undef, defers := [] } := by
    simp only [act, Act.mk.injEq, and_true]
    refine Array.ext (by simp; omega) ?_
    intro i h1 h2
    simp only [Array.size_ofFn] at h1
    by_cases hi : i < args.length
    · simp [frame_eq, List.getD, hi]
    · simp [frame_eq, List.getD, hi, Array.getElem_append]
  refine ⟨calls_of_wp hf hb ?_⟩
  rw [← hact]
  refine wp_mono (h.run hu) ?_
  rintro e a w' ⟨ρ', hu', rfl, hQ⟩
  cases e with
  | normal => obtain ⟨v, hv, hR⟩ := hQ; exact ⟨rfl, v, hv, v, rfl, hR⟩
  | ret => obtain ⟨v, hv, hR⟩ := hQ; exact ⟨rfl, v, hv, v, rfl, hR⟩
  | _ => exact hQ.elim

end Go.Proofs.YgvadwGreat
