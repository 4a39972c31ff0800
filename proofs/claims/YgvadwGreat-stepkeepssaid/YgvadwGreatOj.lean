import Derived.Test.YgvadwGreatOi
import Derived.Test.YgvadwGreatSa
namespace Go.Proofs.YgvadwGreat
set_option linter.unusedSimpArgs false
set_option linter.unusedVariables false
/-- the vault goes on: dj entries, da accounts, dn marks; the weights hold -/
structure Adv (v y : V) (dj da dn : Nat) : Prop where
  vi : VInv y
  j : y.journal.length ≤ v.journal.length + dj
  a : y.accts.length ≤ v.accts.length + da
  s : y.slots.length ≤ v.slots.length
  l : y.logs.length ≤ v.logs.length
  t : y.temps.length ≤ v.temps.length
  nm : y.nmarks = v.nmarks + dn
  en : ∀ A, v.entered A → y.entered A
  past : ∀ S sp, WPast v S sp → WNow v S sp → WPast y S sp
  now : ∀ S sp, WNow v S sp → WNow y S sp
theorem Adv.refl {v : V} (h : VInv v) : Adv v v 0 0 0 := ⟨h, by omega, by omega, by omega, by omega, by omega, by omega, fun _ h => h, fun _ _ h _ => h, fun _ _ h => h⟩
theorem Adv.trans {v y z : V} {dj da dn dj' da' dn' : Nat} (h : Adv v y dj da dn) (h' : Adv y z dj' da' dn') : Adv v z (dj + dj') (da + da') (dn + dn') :=
  ⟨h'.vi, by have := h.j; have := h'.j; omega, by have := h.a; have := h'.a; omega, by have := h.s; have := h'.s; omega, by have := h.l; have := h'.l; omega, by have := h.t; have := h'.t; omega, by rw [h'.nm, h.nm]; omega,
    fun A hA => h'.en A (h.en A hA), fun S sp hp hn => h'.past S sp (h.past S sp hp hn) (h.now S sp hn), fun S sp hn => h'.now S sp (h.now S sp hn)⟩
theorem Adv.weak {v y : V} {dj da dn dj' da' : Nat} (h : Adv v y dj da dn) (h1 : dj ≤ dj') (h2 : da ≤ da') : Adv v y dj' da' dn := { h with j := by have := h.j; omega, a := by have := h.a; omega }
theorem Calm.adv {v y : V} {dj : Nat} (h : Calm v y dj) : Adv v y dj 0 0 :=
  ⟨h.go.inv, h.go.j, h.go.a, h.go.s, h.go.l, h.go.t, by rw [h.go.nm]; omega, h.go.ent, fun S sp hp _ => h.go.past S sp hp, h.now⟩
theorem SetA.adv {v v' : V} {A : List Int} {g : Acct → Acct} {a : Nat} (h : SetA v A g a v') (hb : (g (v.acY A)).bal = (v.acY A).bal) : Adv v v' 1 a 0 :=
  ⟨h.go.inv, h.go.j, h.go.a, h.go.s, h.go.l, h.go.t, by rw [h.go.nm]; omega, h.go.ent, fun S sp hp _ => h.go.past S sp hp, h.now hb⟩
theorem snap_adv {v : V} (h : VInv v) (hn : v.nmarks < 16384) : v.snap.1 = v.nmarks ∧ Adv v v.snap.2 0 0 1 ∧ (∀ A, v.snap.2.bal A = v.bal A) ∧ v.snap.2.sc = v.sc := by
  obtain ⟨h1, h2, h3, h4, h5⟩ := snap_go h hn
  have hsc : v.snap.2.sc = v.sc := by rw [h4]; rfl
  have hor : v.snap.2.origs = v.origs := by rw [h4]; rfl
  refine ⟨h1, ⟨h2, ?_, ?_, ?_, ?_, ?_, h3, ?_, h5, ?_⟩, ?_, hsc⟩
  · rw [h4]; exact Nat.le_refl _
  · rw [h4]; exact Nat.le_refl _
  · rw [h4]; exact Nat.le_refl _
  · rw [h4]; exact Nat.le_refl _
  · rw [h4]; exact Nat.le_refl _
  · intro A hA; rw [h4]; exact hA
  · intro S sp hw; show WOK _ _ _ _; rw [hsc, hor]; exact hw
  · intro A; rw [h4]; rfl
theorem RW.adv {v y : V} {m m' : Mc} {S s s' : Int} {dj da dn : Nat} (h : RW v m S s) (hc : Adv v y dj da dn) (ha1 : da ≤ 1) (hn1 : dn ≤ 1) (h0 : s ≤ s') (h1 : s + 25 * dj ≤ s') (h2 : s + 2600 * da ≤ s') (h3 : s + 100 * dn ≤ s') (ea : m'.a0 = m.a0) (es : m'.s0 = m.s0) : RW y m' S s' := by
  have := h.s0
  refine ⟨by omega, ?_, ?_, ?_, ?_, ?_, ?_, (hc.past S s h.wp h.wn).mono h0, WOK.mono (hc.now S s h.wn) h0⟩
  · have := hc.j; have := h.j; omega
  · have := hc.l; have := h.l; omega
  · rw [hc.nm]; have := h.n
    rcases Nat.eq_zero_or_pos dn with e | e
    · subst e; omega
    · have : dn = 1 := by omega
      subst this; omega
  · have := hc.t; have := h.t; omega
  · have := hc.a; have := h.a
    rcases Nat.eq_zero_or_pos da with e | e
    · subst e; omega
    · have : da = 1 := by omega
      subst this; omega
  · have := hc.s; have := h.sl; omega
/-- no balance moves -/
theorem SetA.bals {v v' : V} {A : List Int} {g : Acct → Acct} {a : Nat} (h : SetA v A g a v') (hb : (g (v.acY A)).bal = (v.acY A).bal) : (∀ X, v'.bal X = v.bal X) ∧ sumW v'.sc.bals = sumW v.sc.bals := by
  constructor
  · intro X
    by_cases e : X = A
    · subst e; rw [← ac_bal, ← ac_bal, h.here, hb]
    · rw [← ac_bal, ← ac_bal, h.there X e]
  · have := h.sum; rw [hb, ac_bal] at this; omega
theorem warm_adv {v : V} {A : List Int} (hv : VInv v) (hR : Room v) : (v.warmT A).1 = true ∧ ∃ dj da, Adv v (v.warmT A).2 dj da 0 ∧ ((v.warmT A).2).isWarmA A = true ∧ 25 * (dj : Int) ≤ accW v A ∧ 2600 * (da : Int) ≤ accW v A ∧ da ≤ 1 ∧ dj ≤ 1 ∧ (∀ X, ((v.warmT A).2).bal X = v.bal X) ∧ sumW ((v.warmT A).2).sc.bals = sumW v.sc.bals := by
  unfold V.warmT accW
  split
  · rename_i hw
    exact ⟨rfl, 0, 0, Adv.refl hv, hw, by omega, by omega, by omega, by omega, fun _ => rfl, rfl⟩
  · rename_i hw
    obtain ⟨h1, a, h2⟩ := warmA_go hv (A := A) (Or.inr (by have := hR.a; omega)) (by have := hR.j; omega)
    have := h2.a1
    refine ⟨h1, 1, a, h2.adv rfl, ?_, by omega, by omega, h2.a1, by omega, (h2.bals rfl).1, (h2.bals rfl).2⟩
    rw [← ac_warm, h2.here]
end Go.Proofs.YgvadwGreat
