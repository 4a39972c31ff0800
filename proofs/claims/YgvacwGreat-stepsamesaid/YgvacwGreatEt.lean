import Derived.Test.YgvacwGreatEs
import Derived.Test.YgvacwGreatOe
namespace Go.Proofs.YgvacwGreat
set_option linter.unusedSimpArgs false
set_option linter.unusedVariables false
/-! the storage -/
theorem sst_eq {o v n : List Int} (ho : Wd o) (hv : Wd v) (hn : Wd n) (cold : Bool) : sstoreW o v n cold = (((ysst (wn o) (wn v) (wn n) cold).1 : Int), ((ysst (wn o) (wn v) (wn n) cold).2.1 : Int), ((ysst (wn o) (wn v) (wn n) cold).2.2 : Int)) := by
  have e1 : (n = v) ↔ (wn n = wn v) := ⟨fun e => by rw [e], fun e => wn_inj hn hv e⟩
  have e2 : (v = o) ↔ (wn v = wn o) := ⟨fun e => by rw [e], fun e => wn_inj hv ho e⟩
  have e3 : (n = o) ↔ (wn n = wn o) := ⟨fun e => by rw [e], fun e => wn_inj hn ho e⟩
  unfold sstoreW ysst
  simp only [e1, e2, e3, z_wn ho, z_wn hv, z_wn hn]
  generalize wn o = a
  generalize wn v = b
  generalize wn n = c
  refine Prod.ext ?_ (Prod.ext ?_ ?_)
  · cases cold <;> dsimp only <;> (repeat' split) <;> (first | omega | (simp at * <;> omega))
  · cases cold <;> dsimp only <;> (repeat' split) <;> (first | omega | (simp at * <;> omega))
  · cases cold <;> dsimp only <;> (repeat' split) <;> (first | omega | (simp at * <;> omega))
theorem VR.accts_eq {rd : SV → List Int} {s : Sx} {p : PW} (h : VR rd s p) {l : List PA} (h1 : ∀ A, (yacct l A).bal = (yacct p.accts A).bal ∧ (yacct l A).nonce = (yacct p.accts A).nonce ∧ (yacct l A).code = (yacct p.accts A).code) (h2 : ∀ A k, yload l A k = yload p.accts A k) : VR rd s { p with accts := l } :=
  { h with bal := fun A => (h.bal A).trans (h1 A).1.symm
           nonce := fun A => (h.nonce A).trans (by rw [(h1 A).2.1])
           code := fun A => (h.code A).trans (h1 A).2.2.symm
           sval := fun A K hK => (h.sval A K hK).trans (h2 A (wn K)).symm }
theorem ystore_same {l : List PA} {A : List Int} {k v : Nat} (h : yload l A k = v) : (∀ X, (yacct (ystore l A k v) X).bal = (yacct l X).bal ∧ (yacct (ystore l A k v) X).nonce = (yacct l X).nonce ∧ (yacct (ystore l A k v) X).code = (yacct l X).code) ∧ ∀ X j, yload (ystore l A k v) X j = yload l X j := by
  constructor
  · intro X; rw [yacct_store]; split
    · rename_i e; rw [e]; exact ⟨rfl, rfl, rfl⟩
    · exact ⟨rfl, rfl, rfl⟩
  · intro X j; rw [yload_store]; split
    · rename_i e; rw [e.1, e.2, h]
    · rfl
theorem ymk_same {l : List (List Int × Nat)} {A : List Int} {k : Nat} (h : (A, k) ∈ l) : ymk l A k = l := by unfold ymk; rw [if_pos h]
theorem SetZ.vrR {rd : SV → List Int} {v v' : V} {p : PW} {r : Nat} (hx : SetZ v v') (ht : v'.temps = v.temps) (hl : v'.logs = v.logs) (h : VR rd v.sx p) (hr : v'.ref = (r : Int)) : VR rd v'.sx { p with ref := r } :=
  hx.vr h rfl rfl rfl rfl rfl (fun A K hK => hx.temps h ht A K hK) hr (by rw [hl]; exact h.logs)
theorem stor_x {v y1 y2 y3 y4 : V} {A K n : List Int} {d u : Int} {m : Mc} {S s sL sS : Int} (hP : StorP v y1 y2 y3 y4 A K n d u m S s sL sS) (hv : VInv v) (hR : Room v) (hA : v.entered A) (hK : Wd K) (hn : Wd n) (hd0 : 0 ≤ d) (hu0 : 0 ≤ u) :
    (VK v y1 ∧ ∀ rd p, VR rd v.sx p → VR rd y1.sx { p with warmS := ymk p.warmS A (wn K) }) ∧
    (VK v y4 ∧ ∀ rd p, VR rd v.sx p → VR rd y4.sx { p with accts := ystore p.accts A (wn K) (wn n), warmS := ymk p.warmS A (wn K), ref := p.ref - d.toNat + u.toNat }) ∧ (∀ rd p, VR rd v.sx p → d ≤ (p.ref : Int)) := by
  have hRj := hR.j
  have hRs := hR.s
  have h1 : VK v y1 ∧ (∀ rd p, VR rd v.sx p → VR rd y1.sx { p with warmS := ymk p.warmS A (wn K) }) ∧ y1.journal.length ≤ v.journal.length + 1 ∧ y1.slots.length ≤ v.slots.length + 1 := by
    by_cases hw : v.isWarmS A K = true
    · rw [hP.warm hw]
      refine ⟨VK.refl v, fun rd p h => ?_, by omega, by omega⟩
      have := (h.slotV hv A hK).2
      rw [hw] at this
      rw [ymk_same (of_decide_eq_true this.symm)]; exact h
    · have e : y1 = (v.warmS A K).2 := by rw [hP.cold hw]
      have hx := warmS_x hv (K := K) hA (Or.inr (by omega)) (by omega)
      obtain ⟨_, b, hg⟩ := warmS_go hv (K := K) hA (Or.inr (by omega)) (by omega)
      have := hg.go.j; have := hg.go.s; have := hg.b1
      rw [e]
      exact ⟨hx.vk, fun rd p h => hx.warmS hK h, by omega, by omega⟩
  obtain ⟨hk1, hr1, hj1, hs1⟩ := h1
  refine ⟨⟨hk1, hr1⟩, ?_⟩
  show (VK v y4 ∧ ∀ rd p, VR rd v.sx p → VR rd y4.sx { p with accts := ystore p.accts A (wn K) (wn n), warmS := ymk p.warmS A (wn K), ref := p.ref - d.toNat + u.toNat }) ∧ (∀ rd p, VR rd v.sx p → d ≤ (p.ref : Int))
  have hv1 := hP.gl.1
  have hA1 := hP.gl.2.1 A hA
  have h2 : VK y1 y2 ∧ VInv y2 ∧ (∀ rd p, VR rd v.sx p → VR rd y2.sx { p with accts := ystore p.accts A (wn K) (wn n), warmS := ymk p.warmS A (wn K) }) ∧ y2.journal.length ≤ y1.journal.length + 1 := by
    by_cases he : n = v.sval A K
    · rw [hP.eqY he]
      refine ⟨VK.refl y1, hv1, fun rd p h => ?_, by omega⟩
      have hl := (h.slotV hv A hK).1
      rw [← he] at hl
      have hs := ystore_same hl.symm
      exact (hr1 rd p h).accts_eq hs.1 hs.2
    · have e : y2 = (y1.store A K n).2 := by rw [hP.ne he]
      have hx := store_x hv1 (K := K) (n := n) hA1 (Or.inr (by omega)) (by omega)
      obtain ⟨_, b, hg⟩ := store_go hv1 (K := K) (n := n) hA1 (Or.inr (by omega)) (by omega)
      have := hg.go.j
      rw [e]
      exact ⟨hx.vk, hg.go.inv, fun rd p h => hx.store hK (hr1 rd p h), by omega⟩
  obtain ⟨hk2, hv2, hr2, hj2⟩ := h2
  have h3 : VK y2 y3 ∧ VInv y3 ∧ (∀ rd p, VR rd v.sx p → VR rd y3.sx { p with accts := ystore p.accts A (wn K) (wn n), warmS := ymk p.warmS A (wn K), ref := p.ref - d.toNat } ∧ d ≤ y2.ref ∨ d = 0 ∧ VR rd y3.sx { p with accts := ystore p.accts A (wn K) (wn n), warmS := ymk p.warmS A (wn K) }) ∧ y3.journal.length ≤ y2.journal.length + 1 := by
    by_cases hd : 0 < d
    · have e := hP.dp hd
      have hle : d ≤ y2.ref := by
        unfold V.refDown at e
        split at e
        · cases e
        · omega
      have e2 : y3 = (y2.refDown d).2 := by rw [e]
      have hx := refDown_x hv2 (n := d) hd0 hle (by omega)
      have hg := refDown_go hv2 (n := d) hd0 hle (by omega)
      have := hg.2.1.go.j
      rw [e2]
      refine ⟨hx.1.vk, hg.2.1.go.inv, fun rd p h => Or.inl ⟨?_, hle⟩, by omega⟩
      have h0 := hr2 rd p h
      have hrf := h0.ref
      refine hx.1.vrR hx.2.1 hx.2.2.2 h0 ?_
      rw [hx.2.2.1]
      show y2.ref - d = _
      have : y2.ref = (p.ref : Int) := hrf
      omega
    · rw [hP.d0 hd]
      exact ⟨VK.refl _, hv2, fun rd p h => Or.inr ⟨by omega, hr2 rd p h⟩, by omega⟩
  obtain ⟨hk3, hv3, hr3, hj3⟩ := h3
  have hr3' : ∀ rd p, VR rd v.sx p → VR rd y3.sx { p with accts := ystore p.accts A (wn K) (wn n), warmS := ymk p.warmS A (wn K), ref := p.ref - d.toNat } := by
    intro rd p h
    rcases hr3 rd p h with ⟨h', _⟩ | ⟨h0, h'⟩
    · exact h'
    · rw [h0]; exact h'
  refine ⟨?_, fun rd p h => by
    have h0 : y2.ref = (p.ref : Int) := (hr2 rd p h).ref
    rcases hr3 rd p h with ⟨_, h'⟩ | ⟨h', _⟩ <;> omega⟩
  by_cases hu : 0 < u
  · have e := hP.up hu
    have hle : y3.ref + u ≤ 209715200 := by
      unfold V.refUp at e
      split at e
      · cases e
      · omega
    have e2 : y4 = (y3.refUp u).2 := by rw [e]
    have hx := refUp_x hv3 (n := u) hu0 hle (by omega)
    rw [e2]
    refine ⟨((hk1.trans hk2).trans hk3).trans hx.1.vk, fun rd p h => ?_⟩
    have h0 := hr3' rd p h
    have hrf : y3.ref = ((p.ref - d.toNat : Nat) : Int) := h0.ref
    exact hx.1.vrR hx.2.1 hx.2.2.2 h0 (by rw [hx.2.2.1, hrf]; omega)
  · rw [hP.u0 hu]
    refine ⟨(hk1.trans hk2).trans hk3, fun rd p h => ?_⟩
    have h0 := hr3' rd p h
    rw [show p.ref - d.toNat + u.toNat = p.ref - d.toNat by omega]
    exact h0
theorem settle_kt [Om] {w1 w2 wS : World} {C : Nat} {c : Array Value} {v : V} {B : VB} {m : Mc} (hM : MS w1 C c v B m) (hE : Ext w1 w2) (hK : KeepO (fun b => b = C) w2 wS) : KT 5 w1 wS ∧ KT 28 w1 wS :=
  ⟨KC.kt (KC.pre hE hK) hM.vs.blk (by decide), KC.kt (KC.pre hE hK) hM.vs.blk (by decide)⟩
theorem yval_84 {ks : List Int → List Int} {y : PSt} {g : PF} (l : List Nat) : yval ks y g 84 l = yload y.now.accts g.self (l.getD 0 0) := by unfold yval; rfl
theorem yvst_84 {y : PSt} {g : PF} (l : List Nat) : yvst y g 84 l = ysWarmS y (ymk y.now.warmS g.self (l.getD 0 0)) := by unfold yvst; rfl
theorem yeff_85 {y : PSt} {g : PF} (l : List Nat) : yeff y g 85 l = (ystores y g (l.getD 0 0) (l.getD 1 0), g) := by unfold yeff; rfl
/-- the two rules of SSTORE -/
theorem sstA_eq [Om] {w : World} {C : Nat} {c : Array Value} {v : V} {B : VB} {m : Mc} {t : Nat} {f : Fm} {y : PSt} {rest : List PF} {g : PF} {hs : List (List Int)} {L : List Int} (hRP : RelP (rdB w) hs L v m y (rest ++ [g])) (hFP : FrP (rdB w) L v m t f g) (hM : MS w C c v B m) (hv : VInv v) (h0 : yarg g 0 = wn (m.argW f 0)) (h1 : yarg g 1 = wn (m.argW f 1)) :
    sstoreW (v.sorig f.self (m.argW f 0)) (v.sval f.self (m.argW f 0)) (m.argW f 1) (!v.isWarmS f.self (m.argW f 0)) = (((ysstA y g).1 : Int), ((ysstA y g).2.1 : Int), ((ysstA y g).2.2 : Int)) := by
  have hw0 := argW_wd hM.ty f 0
  have hw1 := argW_wd hM.ty f 1
  rw [sst_eq (sorig_wd hM.vs.ty _ _) (sval_wd hM.vs.ty _ _) hw1]
  have hsl := hRP.vr.slotV hv f.self hw0
  have hog : wn (v.sorig f.self (m.argW f 0)) = ytl y.start f.self (wn (m.argW f 0)) := by
    have e := sl_lk hv f.self (m.argW f 0)
    have := hRP.og f.self (m.argW f 0) hw0
    rw [← e] at this
    exact this
  unfold ysstA
  rw [h0, h1, hsl.1, hsl.2, hog, hFP.self]
end Go.Proofs.YgvacwGreat
