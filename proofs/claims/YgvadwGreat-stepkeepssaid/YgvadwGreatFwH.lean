import Derived.Test.YgvadwGreatFwG
set_option linter.unusedSimpArgs false
set_option linter.unusedVariables false
namespace Go.Proofs.YgvadwGreat

/-! facts in wrappers, so that 'assumption' compares like with like alone -/
structure Tr (b v : Bool) : Prop where
  h : b = v
structure Hb (w : World) (b : Nat) (o : Obj) : Prop where
  h : hp w b = some o
structure Ce (c : Array Value) (i : Nat) (v : Value) : Prop where
  h : c[i]? = some v
structure Xt (c : Array Value) (i j : Nat) (e : Array Value) : Prop where
  h : c.extract i j = e
theorem Hb.newY (w : World) (o : Obj) : Hb (w.alloc o) w.heap.size o := ⟨hp_alloc_new w o⟩
theorem Hb.alloc {w : World} {b : Nat} {o o' : Obj} (h : Hb w b o) : Hb (w.alloc o') b o := ⟨keep_alloc h.h⟩
theorem Hb.drew {w : World} {b : Nat} {o : Obj} (h : Hb w b o) : Hb w.drew b o := ⟨h.h⟩
theorem Hb.ext {w w' : World} {b : Nat} {o : Obj} (he : Ext w w') (h : Hb w b o) : Hb w' b o := ⟨keep_ext he h.h⟩
theorem Hb.setSame {w : World} {b : Nat} {o o' : Obj} (h : Hb w b o) : Hb (setB w b o') b o' := ⟨keep_setB_same h.h⟩
theorem Hb.setSameL {w : World} {b : Nat} {o' : Obj} (h : b < w.heap.size) : Hb (setB w b o') b o' := ⟨hp_setB_same o' h⟩
theorem Hb.set {w : World} {b b' : Nat} {o o' : Obj} (hne : b ≠ b') (h : Hb w b' o) : Hb (setB w b o') b' o := ⟨keep_setB h.h hne⟩
theorem Hb.lt {w : World} {b : Nat} {o : Obj} (h : Hb w b o) : b < w.heap.size := hp_lt h.h
theorem Xt.whole {c : Array Value} {o k : Nat} (ho : o = 0) (hs : c.size = k) : Xt c o (o + k) c := ⟨ext_whole ho hs⟩
theorem W_if {P : Program} {n : Nat} {Q : Post} {ρ : Nat → Value} {w : World} {c : Operand} {x y : Code} {b : Bool} (hc : ev ρ c = .bool b) (ht : Tr b true → W P n x Q ρ w) (hf : Tr b false → W P n y Q ρ w) : W P n (.cond c x y) Q ρ w :=
  W_cond hc (fun h => ht ⟨h⟩) (fun h => hf ⟨h⟩)
theorem WO_if {P : Program} {ops : Array Oper} {Q : Post} {os : List Oper} {ρ : Nat → Value} {w : World} {b : Bool} {t : Nat} (hv : ρ t = .bool b) (ht : Tr b true → WO P ops Q os ρ w) (hf : Tr b false → WO P ops Q os ρ w) : WO P ops Q os ρ w :=
  WO_splitB hv (fun h => ht ⟨h⟩) (fun h => hf ⟨h⟩)
theorem WH_if {P : Program} {ops : Array Oper} {S : World → Prop} {Q : Post} {os : List TOp} {ρ : Nat → Value} {w : World} {b : Bool} {t : Nat} (hv : ρ t = .bool b) (ht : Tr b true → WH P ops S Q os ρ w) (hf : Tr b false → WH P ops S Q os ρ w) : WH P ops S Q os ρ w :=
  WH_splitB hv (fun h => ht ⟨h⟩) (fun h => hf ⟨h⟩)

theorem neg_of {b v : Bool} (h : (!b) = v) : b = !v := by cases b <;> cases v <;> simp_all
/-- what is known of a frame -/
def Fr : List (Nat × Value) → (Nat → Value) → Prop
  | [], _ => True
  | (t, v) :: l, ρ => ρ t = v ∧ Fr l ρ
def updl : List (Nat × Value) → (Nat → Value) → Nat → Value
  | [], ρ => ρ
  | (t, v) :: l, ρ => upd (updl l ρ) t v
theorem upd_self (ρ : Nat → Value) (t : Nat) : upd ρ t (ρ t) = ρ := by
  funext s
  by_cases h : s = t
  · subst h; rw [upd_same]
  · rw [upd_ne _ _ _ _ h]
theorem updl_eq : ∀ (l : List (Nat × Value)) (ρ : Nat → Value), Fr l ρ → updl l ρ = ρ
  | [], _, _ => rfl
  | (t, v) :: l, ρ, h => by
    obtain ⟨h1, h2⟩ := h
    rw [updl, updl_eq l ρ h2, ← h1, upd_self]
theorem W_env {P : Program} {n : Nat} {c : Code} {Q : Post} {ρ : Nat → Value} {w : World} (l : List (Nat × Value)) (h : Fr l ρ) (hw : W P n c Q (updl l ρ) w) : W P n c Q ρ w := by
  rwa [updl_eq l ρ h] at hw

theorem W_loopN {P : Program} {n : Nat} {c : Code} {Q : Post} {ρ : Nat → Value} {w : World} (I : Nat → (Nat → Value) → World → Prop) (m : Nat) (h0 : I m ρ w)
    (round : ∀ m ρ w, I m ρ w → W P n c (thn (fun ρ' w' => ∃ m', m' < m ∧ I m' ρ' w') Q) ρ w) : W P n (.loop c) Q ρ w := by
  classical
  have key : ∀ (m : Nat) (p : Nat → Prop), p m → ∃ k, p k ∧ k ≤ m ∧ ∀ j, p j → k ≤ j := by
    intro m
    induction m using Nat.strongRecOn with
    | _ m ih =>
      intro p hp
      by_cases hx : ∃ j, j < m ∧ p j
      · obtain ⟨j, hj, hpj⟩ := hx
        obtain ⟨k, hk, hkj, hmin⟩ := ih j hj p hpj
        exact ⟨k, hk, by omega, hmin⟩
      · refine ⟨m, hp, Nat.le_refl _, fun j hj => ?_⟩
        rcases Nat.lt_or_ge j m with h | h
        · exact absurd ⟨j, h, hj⟩ hx
        · exact h
  have least : ∀ ρ w, (∃ m, I m ρ w) → ∃ k, I k ρ w ∧ ∀ j, I j ρ w → k ≤ j := by
    rintro ρ w ⟨m, hm⟩
    obtain ⟨k, hk, _, hmin⟩ := key m (fun j => I j ρ w) hm
    exact ⟨k, hk, hmin⟩
  refine W_loop (fun ρ w => ∃ m, I m ρ w) (fun ρ w => if h : ∃ m, I m ρ w then Classical.choose (least ρ w h) else 0) ⟨m, h0⟩ ?_
  intro ρ w hI
  have hs := Classical.choose_spec (least ρ w hI)
  refine W_mono (round _ ρ w hs.1) ?_
  intro e ρ' w' hq
  cases e with
  | normal =>
    obtain ⟨m', hm', hI'⟩ := hq
    refine ⟨⟨m', hI'⟩, ?_⟩
    have hs' := Classical.choose_spec (least ρ' w' ⟨m', hI'⟩)
    rw [al_dp ⟨m', hI'⟩, al_dp hI]
    exact Nat.lt_of_le_of_lt (hs'.2 m' hI') hm'
  | _ => exact hq
theorem inBlk_exit_ne {Q : Post} {ρ : Nat → Value} {w : World} {id id' : Nat} (hne : id' ≠ id) (h : Q (.exit id') ρ w) : inBlk id Q (.exit id') ρ w := by
  simp only [inBlk, hne, al_i0]; exact h
end Go.Proofs.YgvadwGreat
