import Derived.Test.YgvadwGreatNi
import Derived.Test.YgvadwGreatKb
namespace Go.Proofs.YgvadwGreat
set_option linter.unusedSimpArgs false
set_option linter.unusedVariables false
/-! what a step of the vault leaves of room and weights -/
structure Room (v : V) : Prop where
  j : v.journal.length < 65000
  a : v.accts.length < 2000
  s : v.slots.length < 2000
  l : v.logs.length < 2800
  t : v.temps.length < 12288
  n : v.nmarks < 16000
  r : v.ref ≤ 209000000
theorem RW.room {v : V} {m : Mc} {S s : Int} (h : RW v m S s) (hs : s ≤ 1027576) (ha : m.a0 ≤ 8) (hs0 : m.s0 ≤ 128) : Room v := by
  have := h.s0
  have hr := h.wn.gas
  have e : v.sc.ref = v.ref := rfl
  exact ⟨by have := h.j; omega, by have := h.a; omega, by have := h.sl; omega, by have := h.l; omega, by have := h.t; omega, by have := h.n; omega, by omega⟩
theorem RI.sb {scan : List Int → List Int} {v : V} {m : Mc} {t : Nat} {c S : Int} (h : RI scan v m t c S) (hty : MTy m) : m.txgas - gasTo m.frames (t + 1) ≤ 1027576 ∧ 0 ≤ gasTo m.frames (t + 1) := by
  have h1 := h.ti.tx
  have h2 := h.ti.lm
  have h3 := (gas_bd h hty (t + 1) (Nat.le_refl _)).1
  omega
theorem RI.room {scan : List Int → List Int} {v : V} {m : Mc} {t : Nat} {c S : Int} (h : RI scan v m t c S) (hty : MTy m) : Room v := by
  have := h.sb hty
  have := h.c0
  exact h.rw_.room (by omega) h.ti.a0 h.ti.s0
theorem RW.setA {v v' : V} {m : Mc} {S s s' : Int} {A : List Int} {g : Acct → Acct} {a : Nat} (h : RW v m S s) (hc : SetA v A g a v') (hb : (g (v.acY A)).bal = (v.acY A).bal) (h1 : s + 25 ≤ s') (h2 : s + 2600 * a ≤ s') : RW v' m S s' := by
  have g := hc.go
  have := h.s0
  have ha1 := hc.a1
  refine ⟨by omega, ?_, ?_, ?_, ?_, ?_, ?_, (g.past S s h.wp).mono (by omega), WOK.mono (hc.now hb S s h.wn) (by omega)⟩
  · have := g.j; have := h.j; omega
  · have := g.l; have := h.l; omega
  · rw [g.nm]; have := h.n; omega
  · have := g.t; have := h.t; omega
  · have := g.a; have := h.a
    rcases Nat.eq_zero_or_pos a with h0 | h0
    · subst h0; omega
    · have : a = 1 := by omega
      subst this; omega
  · have := g.s; have := h.sl; omega
theorem RW.setO {v v' : V} {m : Mc} {S s s' : Int} {dl dt : Nat} (h : RW v m S s) (hc : SetO v v' dl dt) (hr : v'.ref = v.ref) (hl1 : dl ≤ 1) (ht1 : dt ≤ 1) (h1 : s + 25 ≤ s') (h2 : s + 375 * dl ≤ s') (h3 : s + 100 * dt ≤ s') : RW v' m S s' := by
  have g := hc.go
  have := h.s0
  have hsc : v'.sc = v.sc := by unfold V.sc; rw [hc.accts, hc.slots, hr]
  have hor : v'.origs = v.origs := by unfold V.origs; rw [hc.slots]
  refine ⟨by omega, ?_, ?_, ?_, ?_, ?_, ?_, (g.past S s h.wp).mono (by omega), ?_⟩
  · have := g.j; have := h.j; omega
  · have := g.l; have := h.l
    rcases Nat.eq_zero_or_pos dl with h0 | h0
    · subst h0; omega
    · have : dl = 1 := by omega
      subst this; omega
  · rw [g.nm]; have := h.n; omega
  · have := g.t; have := h.t
    rcases Nat.eq_zero_or_pos dt with h0 | h0
    · subst h0; omega
    · have : dt = 1 := by omega
      subst this; omega
  · have := g.a; have := h.a; omega
  · have := g.s; have := h.sl; omega
  · show WOK v'.origs S s' v'.sc
    rw [hsc, hor]; exact WOK.mono h.wn (by omega)
/-- slots and refunds have moved: dj entries, b newY slots, dk more cleared, dr more refund -/
structure SR (v v' : V) (dj b : Nat) (dk dr : Int) : Prop where
  go : VGo v v' dj 0 b 0 0
  accts : v'.accts = v.accts
  clr : cleared v'.sc.vals v'.origs = cleared v.sc.vals v.origs + dk
  ref : v'.ref = v.ref + dr
theorem SR.refl {v : V} (h : VInv v) : SR v v 0 0 0 0 := ⟨VGo.refl h, rfl, by omega, by omega⟩
theorem SR.trans {v v1 v2 : V} {dj dj' b b' : Nat} {dk dk' dr dr' : Int} (h : SR v v1 dj b dk dr) (h' : SR v1 v2 dj' b' dk' dr') : SR v v2 (dj + dj') (b + b') (dk + dk') (dr + dr') :=
  ⟨h.go.trans h'.go, h'.accts.trans h.accts, by rw [h'.clr, h.clr]; omega, by rw [h'.ref, h.ref]; omega⟩
theorem SetO.sr {v v' : V} {dr : Int} (h : SetO v v' 0 0) (hr : v'.ref = v.ref + dr) : SR v v' 1 0 0 dr :=
  ⟨h.go, h.accts, by
    have e1 : v'.sc.vals = v.sc.vals := by unfold V.sc; rw [h.slots]
    have e2 : v'.origs = v.origs := by unfold V.origs; rw [h.slots]
    rw [e1, e2]; omega, hr⟩
theorem SetS.sr {v v' : V} {A K : List Int} {g : Slot → Slot} {b : Nat} (h : SetS v A K g b v') : SR v v' 1 b ((if (g (v.sl A K)).val = [0, 0, 0, 0] ∧ (v.sl A K).orig ≠ [0, 0, 0, 0] then 1 else 0) - (if (v.sl A K).val = [0, 0, 0, 0] ∧ (v.sl A K).orig ≠ [0, 0, 0, 0] then 1 else 0)) 0 :=
  ⟨h.go, h.accts, by have := h.clr; omega, by rw [h.ref]; omega⟩
theorem RW.sr {v v' : V} {m : Mc} {S s s' : Int} {dj b : Nat} {dk dr : Int} (h : RW v m S s) (hc : SR v v' dj b dk dr) (hb1 : b ≤ 1) (h1 : s + 25 * dj ≤ s') (h2 : s + 2100 * b ≤ s') (h3 : 4800 * dk ≤ dr) (h4 : dr ≤ 199 * (s' - s)) : RW v' m S s' := by
  have g := hc.go
  have := h.s0
  refine ⟨by omega, ?_, ?_, ?_, ?_, ?_, ?_, (g.past S s h.wp).mono (by omega), ?_⟩
  · have := g.j; have := h.j; omega
  · have := g.l; have := h.l; omega
  · rw [g.nm]; have := h.n; omega
  · have := g.t; have := h.t; omega
  · have := g.a; have := h.a; omega
  · have := g.s; have := h.sl
    rcases Nat.eq_zero_or_pos b with h0 | h0
    · subst h0; omega
    · have : b = 1 := by omega
      subst this; omega
  · have hsum := h.wn.sum
    have hclr := h.wn.clr
    have hgas := h.wn.gas
    have e1 : v'.sc.bals = v.sc.bals := by unfold V.sc; rw [hc.accts]
    have e2 : v'.sc.ref = v.sc.ref + dr := hc.ref
    have e3 := hc.clr
    exact ⟨by rw [e1]; exact hsum, by rw [e3, e2]; omega, by rw [e2]; omega⟩
/-- an account is made warm, where it is cold -/
theorem RW.warm {v : V} {m : Mc} {S s s' : Int} {A : List Int} (h : RW v m S s) (hv : VInv v) (hR : Room v) (hs : s + accW v A ≤ s') : (v.warmT A).1 = true ∧ RW (v.warmT A).2 m S s' ∧ ∃ dj da, VGo v (v.warmT A).2 dj da 0 0 0 ∧ ((v.warmT A).2).isWarmA A = true := by
  unfold V.warmT
  unfold accW at hs
  split
  · rename_i hw
    rw [if_pos hw] at hs
    exact ⟨rfl, h.mono (by omega), 0, 0, VGo.refl hv, hw⟩
  · rename_i hw
    rw [if_neg hw] at hs
    obtain ⟨h1, a, h2⟩ := warmA_go hv (A := A) (Or.inr (by have := hR.a; omega)) (by have := hR.j; omega)
    have := h2.a1
    refine ⟨h1, h.setA h2 rfl (by omega) (by omega), 1, a, h2.go, ?_⟩
    rw [← ac_warm, h2.here]
/-- the refunds that a write to the storage brings -/
def V.refDT (v : V) (d : Int) : V := if 0 < d then (v.refDown d).2 else v
def V.refUT (v : V) (u : Int) : V := if 0 < u then (v.refUp u).2 else v
theorem refs_go {v : V} (h : VInv v) {d u : Int} (hd : 0 ≤ d ∧ d ≤ v.ref) (hu : 0 ≤ u ∧ v.ref - d + u ≤ 209715200) (hj : v.journal.length < 65500) :
    (0 < d → (v.refDown d).1 = true) ∧ (0 < u → ((v.refDT d).refUp u).1 = true) ∧ ∃ dj, SR v ((v.refDT d).refUT u) dj 0 0 (u - d) ∧ dj ≤ 2 := by
  have hD := refDown_go h hd.1 hd.2 (by omega)
  have key : ∃ dj, dj ≤ 1 ∧ SR v (v.refDT d) dj 0 0 (-d) := by
    unfold V.refDT
    split
    · exact ⟨1, Nat.le_refl _, hD.2.1.sr (by rw [hD.2.2]; omega)⟩
    · exact ⟨0, by omega, by have := SR.refl h; rw [show d = 0 by omega]; exact this⟩
  obtain ⟨dj, hdj, hs⟩ := key
  have hU := refUp_go (v := v.refDT d) hs.go.inv hu.1 (by rw [hs.ref]; omega) (by have := hs.go.j; omega)
  refine ⟨fun _ => hD.1, fun _ => hU.1, ?_⟩
  have key2 : ∃ dj', dj' ≤ 1 ∧ SR (v.refDT d) ((v.refDT d).refUT u) dj' 0 0 u := by
    unfold V.refUT
    split
    · exact ⟨1, Nat.le_refl _, hU.2.1.sr hU.2.2⟩
    · exact ⟨0, by omega, by have := SR.refl hs.go.inv; rw [show u = 0 by omega]; exact this⟩
  obtain ⟨dj', hdj', hs'⟩ := key2
  refine ⟨dj + dj', ?_, by omega⟩
  have e1 : (0 : Int) + 0 = 0 := rfl
  have e2 : -d + u = u - d := by omega
  have := hs.trans hs'
  rw [e1, e2] at this
  exact this
theorem stor_fin {v v2 : V} {dj0 : Nat} {dk0 d u : Int} (hs : SR v v2 dj0 0 dk0 0) (hdj : dj0 ≤ 1) (hj : v.journal.length < 65400) (hd : 0 ≤ d ∧ d ≤ v.ref) (hu : 0 ≤ u ∧ u ≤ 19900) (hrf : v.ref ≤ 209000000) (hk : 4800 * dk0 ≤ u - d) :
    (0 < d → (v2.refDown d).1 = true) ∧ (0 < u → ((v2.refDT d).refUp u).1 = true) ∧ ∃ (dj : Nat) (dk dr : Int), SR v ((v2.refDT d).refUT u) dj 0 dk dr ∧ dj ≤ 3 ∧ 4800 * dk ≤ dr ∧ dr = u - d := by
  have hr2 := hs.ref
  obtain ⟨h1, h2, dj, h3, h4⟩ := refs_go hs.go.inv (d := d) (u := u) ⟨hd.1, by omega⟩ ⟨hu.1, by omega⟩ (by have := hs.go.j; omega)
  exact ⟨h1, h2, _, _, _, hs.trans h3, by omega, by omega, by omega⟩
def V.storeT (v : V) (A K n : List Int) : V := if n = v.sval A K then v else (v.store A K n).2
theorem stor_go {v : V} (h : VInv v) {A K n : List Int} (hA : v.entered A) (hg : v.getS A K ≠ none) (hj : v.journal.length < 65400) (hcl : 4800 * cleared v.sc.vals v.origs ≤ v.ref) (hrf : v.ref ≤ 209000000) (hz : ∀ x ∈ [n, v.sval A K, v.sorig A K], (wv x = 0 ↔ x = [0, 0, 0, 0])) (cold : Bool) :
    (¬ n = v.sval A K → (v.store A K n).1 = true) ∧ (0 < (sstoreW (v.sorig A K) (v.sval A K) n cold).2.2 → ((v.storeT A K n).refDown (sstoreW (v.sorig A K) (v.sval A K) n cold).2.2).1 = true)
    ∧ (0 < (sstoreW (v.sorig A K) (v.sval A K) n cold).2.1 → (((v.storeT A K n).refDT (sstoreW (v.sorig A K) (v.sval A K) n cold).2.2).refUp (sstoreW (v.sorig A K) (v.sval A K) n cold).2.1).1 = true)
    ∧ ∃ dj dk dr, SR v (((v.storeT A K n).refDT (sstoreW (v.sorig A K) (v.sval A K) n cold).2.2).refUT (sstoreW (v.sorig A K) (v.sval A K) n cold).2.1) dj 0 dk dr ∧ 25 * (dj : Int) + (if cold = true then 2100 else 0) ≤ (sstoreW (v.sorig A K) (v.sval A K) n cold).1 ∧ 4800 * dk ≤ dr ∧ dr + (if cold = true then 2100 else 0) ≤ 199 * ((sstoreW (v.sorig A K) (v.sval A K) n cold).1 - (if cold = true then 2100 else 0)) + (if cold = true then 2100 else 0) := by
  obtain ⟨h1, b, h2⟩ := store_go h (n := n) hA (Or.inl hg) (by omega)
  have hb := h2.b0 hg
  subst hb
  have hsr := h2.sr
  simp only [sl_val, sl_orig] at hsr
  have hc0 := cleared_nonneg v.sc.vals v.origs
  have hc1 := cleared_nonneg (v.store A K n).2.sc.vals (v.store A K n).2.origs
  have hc2 := hsr.clr
  have zn := hz n (by simp)
  have zv := hz (v.sval A K) (by simp)
  have zo := hz (v.sorig A K) (by simp)
  have hdk : ∀ y o, v.sval A K = y → v.sorig A K = o → True := fun _ _ _ _ => trivial
  have go : ∀ (C U D : Int), sstoreW (v.sorig A K) (v.sval A K) n cold = ((if cold = true then 2100 else 0) + C, U, D) → 100 ≤ C → (0 ≤ D ∧ D ≤ v.ref) → (0 ≤ U ∧ U ≤ 19900) → U - D ≤ 199 * C →
      (¬ n = v.sval A K → 4800 * ((if n = [0, 0, 0, 0] ∧ v.sorig A K ≠ [0, 0, 0, 0] then 1 else 0) - (if v.sval A K = [0, 0, 0, 0] ∧ v.sorig A K ≠ [0, 0, 0, 0] then 1 else 0)) ≤ U - D) → (n = v.sval A K → 0 ≤ U - D) →
      (¬ n = v.sval A K → (v.store A K n).1 = true) ∧ (0 < (sstoreW (v.sorig A K) (v.sval A K) n cold).2.2 → ((v.storeT A K n).refDown (sstoreW (v.sorig A K) (v.sval A K) n cold).2.2).1 = true)
    ∧ (0 < (sstoreW (v.sorig A K) (v.sval A K) n cold).2.1 → (((v.storeT A K n).refDT (sstoreW (v.sorig A K) (v.sval A K) n cold).2.2).refUp (sstoreW (v.sorig A K) (v.sval A K) n cold).2.1).1 = true)
    ∧ ∃ dj dk dr, SR v (((v.storeT A K n).refDT (sstoreW (v.sorig A K) (v.sval A K) n cold).2.2).refUT (sstoreW (v.sorig A K) (v.sval A K) n cold).2.1) dj 0 dk dr ∧ 25 * (dj : Int) + (if cold = true then 2100 else 0) ≤ (sstoreW (v.sorig A K) (v.sval A K) n cold).1 ∧ 4800 * dk ≤ dr ∧ dr + (if cold = true then 2100 else 0) ≤ 199 * ((sstoreW (v.sorig A K) (v.sval A K) n cold).1 - (if cold = true then 2100 else 0)) + (if cold = true then 2100 else 0) := by
    intro C U D e hC hD hU hUD hn1 hn2
    rw [e]
    dsimp only
    have key : ∃ (dj0 : Nat) (dk0 : Int), dj0 ≤ 1 ∧ SR v (v.storeT A K n) dj0 0 dk0 0 ∧ 4800 * dk0 ≤ U - D := by
      unfold V.storeT
      split
      · rename_i hh; exact ⟨0, 0, by omega, SR.refl h, by have := hn2 hh; omega⟩
      · rename_i hh; exact ⟨1, _, Nat.le_refl _, hsr, hn1 hh⟩
    obtain ⟨dj0, dk0, k1, k2, k3⟩ := key
    obtain ⟨f1, f2, dj, dk, dr, f3, f4, f5, f6⟩ := stor_fin k2 k1 hj hD hU hrf k3
    exact ⟨fun _ => h1, f1, f2, dj, dk, dr, f3, by omega, f5, by omega⟩
  clear hdk
  generalize hy : v.sval A K = y at *
  generalize ho : v.sorig A K = o at *
  have hclr1 : y = [0, 0, 0, 0] → o ≠ [0, 0, 0, 0] → n ≠ [0, 0, 0, 0] → 4800 ≤ v.ref := by
    intro a1 a2 a3
    rw [if_neg (fun h => a3 h.1), if_pos ⟨a1, a2⟩] at hc2
    omega
  by_cases hny : n = y
  · exact go 100 0 0 (by unfold sstoreW; rw [if_pos hny]) (by omega) ⟨by omega, by omega⟩ (by omega) (by omega) (fun h => absurd hny h) (fun _ => by omega)
  · by_cases hyo : y = o
    · by_cases hoz : o = [0, 0, 0, 0]
      · exact go 20000 0 0 (by unfold sstoreW; rw [if_neg hny, if_pos hyo, if_pos (zo.2 hoz)]) (by omega) ⟨by omega, by omega⟩ (by omega) (by omega) (fun _ => by rw [if_neg (fun h => h.2 hoz), if_neg (fun h => h.2 hoz)]; omega) (fun h => absurd h hny)
      · by_cases hnz : n = [0, 0, 0, 0]
        · exact go 2900 4800 0 (by unfold sstoreW; rw [if_neg hny, if_pos hyo, if_neg (fun h => hoz (zo.1 h)), if_pos (zn.2 hnz)]) (by omega) ⟨by omega, by omega⟩ (by omega) (by omega) (fun _ => by rw [if_pos ⟨hnz, hoz⟩, if_neg (fun h => hoz (hyo ▸ h.1))]; omega) (fun h => absurd h hny)
        · exact go 2900 0 0 (by unfold sstoreW; rw [if_neg hny, if_pos hyo, if_neg (fun h => hoz (zo.1 h)), if_neg (fun h => hnz (zn.1 h))]) (by omega) ⟨by omega, by omega⟩ (by omega) (by omega) (fun _ => by rw [if_neg (fun h => hnz h.1), if_neg (fun h => hoz (hyo ▸ h.1))]; omega) (fun h => absurd h hny)
    · by_cases hoz : o = [0, 0, 0, 0]
      · by_cases hno : n = o
        · exact go 100 19900 0 (by unfold sstoreW; rw [if_neg hny, if_neg hyo]; generalize (if cold = true then (2100 : Int) else 0) = qc; rw [if_neg (fun h => h.1 (zo.2 hoz)), if_pos hno, if_pos (zo.2 hoz), if_neg (fun h => h.1 (zo.2 hoz))]; rfl) (by omega) ⟨by omega, by omega⟩ (by omega) (by omega) (fun _ => by rw [if_neg (fun h => h.2 hoz), if_neg (fun h => h.2 hoz)]; omega) (fun h => absurd h hny)
        · exact go 100 0 0 (by unfold sstoreW; rw [if_neg hny, if_neg hyo]; generalize (if cold = true then (2100 : Int) else 0) = qc; rw [if_neg (fun h => h.1 (zo.2 hoz)), if_neg hno, if_neg (fun h => h.1 (zo.2 hoz))]; rfl) (by omega) ⟨by omega, by omega⟩ (by omega) (by omega) (fun _ => by rw [if_neg (fun h => h.2 hoz), if_neg (fun h => h.2 hoz)]; omega) (fun h => absurd h hny)
      · have woz : ¬ wv o = 0 := fun h => hoz (zo.1 h)
        by_cases hyz : y = [0, 0, 0, 0]
        · have hnz : n ≠ [0, 0, 0, 0] := fun h => hny (h.trans hyz.symm)
          have href := hclr1 hyz hoz hnz
          by_cases hno : n = o
          · exact go 100 2800 4800 (by unfold sstoreW; rw [if_neg hny, if_neg hyo]; generalize (if cold = true then (2100 : Int) else 0) = qc; rw [if_neg (fun h => h.2.1 (zv.2 hyz)), if_pos hno, if_neg woz, if_pos ⟨woz, zv.2 hyz⟩]; rfl) (by omega) ⟨by omega, by omega⟩ (by omega) (by omega) (fun _ => by rw [if_neg (fun h => hnz h.1), if_pos ⟨hyz, hoz⟩]; omega) (fun h => absurd h hny)
          · exact go 100 0 4800 (by unfold sstoreW; rw [if_neg hny, if_neg hyo]; generalize (if cold = true then (2100 : Int) else 0) = qc; rw [if_neg (fun h => h.2.1 (zv.2 hyz)), if_neg hno, if_pos ⟨woz, zv.2 hyz⟩]; rfl) (by omega) ⟨by omega, by omega⟩ (by omega) (by omega) (fun _ => by rw [if_neg (fun h => hnz h.1), if_pos ⟨hyz, hoz⟩]; omega) (fun h => absurd h hny)
        · have wyz : ¬ wv y = 0 := fun h => hyz (zv.1 h)
          by_cases hnz : n = [0, 0, 0, 0]
          · have hno : ¬ n = o := fun h => hoz (h ▸ hnz)
            exact go 100 4800 0 (by unfold sstoreW; rw [if_neg hny, if_neg hyo]; generalize (if cold = true then (2100 : Int) else 0) = qc; rw [if_pos ⟨woz, wyz, zn.2 hnz⟩, if_neg hno, if_neg (fun h => wyz h.2)]; rfl) (by omega) ⟨by omega, by omega⟩ (by omega) (by omega) (fun _ => by rw [if_pos ⟨hnz, hoz⟩, if_neg (fun h => hyz h.1)]; omega) (fun h => absurd h hny)
          · have wnz : ¬ wv n = 0 := fun h => hnz (zn.1 h)
            by_cases hno : n = o
            · exact go 100 2800 0 (by unfold sstoreW; rw [if_neg hny, if_neg hyo]; generalize (if cold = true then (2100 : Int) else 0) = qc; rw [if_neg (fun h => wnz h.2.2), if_pos hno, if_neg woz, if_neg (fun h => wyz h.2)]; rfl) (by omega) ⟨by omega, by omega⟩ (by omega) (by omega) (fun _ => by rw [if_neg (fun h => hnz h.1), if_neg (fun h => hyz h.1)]; omega) (fun h => absurd h hny)
            · exact go 100 0 0 (by unfold sstoreW; rw [if_neg hny, if_neg hyo]; generalize (if cold = true then (2100 : Int) else 0) = qc; rw [if_neg (fun h => wnz h.2.2), if_neg hno, if_neg (fun h => wyz h.2)]; rfl) (by omega) ⟨by omega, by omega⟩ (by omega) (by omega) (fun _ => by rw [if_neg (fun h => hnz h.1), if_neg (fun h => hyz h.1)]; omega) (fun h => absurd h hny)
end Go.Proofs.YgvadwGreat
