import Derived.Test.YgvadwGreatOc
namespace Go.Proofs.YgvadwGreat
set_option linter.unusedSimpArgs false
set_option linter.unusedVariables false
def V.warmST (v : V) (A K : List Int) : V := if v.isWarmS A K = true then v else (v.warmS A K).2
theorem warmS_none {v : V} {A K : List Int} (h : v.isWarmS A K = true) : v.getS A K ≠ none := by
  intro e; unfold V.isWarmS at h; rw [e] at h; cases h
structure WarmR (v v1 : V) (A K : List Int) (dj b : Nat) : Prop where
  sr : SR v v1 dj b 0 0
  b1 : b ≤ 1
  d1 : dj ≤ 1
  wm : v.isWarmS A K = true → dj = 0 ∧ b = 0
  gs : v1.getS A K ≠ none
  val : v1.sval A K = v.sval A K
  orig : v1.sorig A K = v.sorig A K
theorem warmST_go {v : V} (hv : VInv v) (hR : Room v) {A K : List Int} (hA : v.entered A) : (¬ v.isWarmS A K = true → (v.warmS A K).1 = true) ∧ ∃ dj b, WarmR v (v.warmST A K) A K dj b := by
  obtain ⟨h1, b, h2⟩ := warmS_go hv (K := K) hA (Or.inr (by have := hR.s; omega)) (by have := hR.j; omega)
  refine ⟨fun _ => h1, ?_⟩
  unfold V.warmST
  split
  · rename_i hw
    exact ⟨0, 0, SR.refl hv, by omega, by omega, fun _ => ⟨rfl, rfl⟩, warmS_none hw, rfl, rfl⟩
  · rename_i hw
    refine ⟨1, b, ?_, h2.b1, by omega, fun h => absurd h hw, by rw [h2.here]; simp, ?_, ?_⟩
    · have := h2.sr
      simp only [Int.sub_self] at this
      exact this
    · unfold V.sval; rw [h2.here]; exact sl_val
    · unfold V.sorig; rw [h2.here]; exact sl_orig
/-- what the instructions of the storage do with the vault -/
structure StorP (v v1 v2 v3 v4 : V) (A K n : List Int) (d u : Int) (m : Mc) (S s sL sS : Int) : Prop where
  cold : ¬ v.isWarmS A K = true → v.warmS A K = (true, v1)
  warm : v.isWarmS A K = true → v1 = v
  ne : ¬ n = v.sval A K → v1.store A K n = (true, v2)
  eqY : n = v.sval A K → v2 = v1
  dp : 0 < d → v2.refDown d = (true, v3)
  d0 : ¬ 0 < d → v3 = v2
  up : 0 < u → v3.refUp u = (true, v4)
  u0 : ¬ 0 < u → v4 = v3
  rl : s + (if v.isWarmS A K = true then 100 else 2100) ≤ sL → RW v1 m S sL
  gl : VInv v1 ∧ (∀ X, v.entered X → v1.entered X) ∧ v1.nmarks = v.nmarks
  rs : s + (sstoreW (v.sorig A K) (v.sval A K) n (!v.isWarmS A K)).1 ≤ sS → RW v4 m S sS
  g4 : VInv v4 ∧ (∀ X, v.entered X → v4.entered X) ∧ v4.nmarks = v.nmarks
theorem stor_plan {v : V} {m : Mc} {S s : Int} (h : RW v m S s) (hv : VInv v) (hR : Room v) {A K n : List Int} (hA : v.entered A) (hty : VTy v) (hn : Wd n) (sL sS : Int) :
    ∃ v1 v2 v3 v4, StorP v v1 v2 v3 v4 A K n (sstoreW (v.sorig A K) (v.sval A K) n (!v.isWarmS A K)).2.2 (sstoreW (v.sorig A K) (v.sval A K) n (!v.isWarmS A K)).2.1 m S s sL sS := by
  obtain ⟨hw, dj, b, hW⟩ := warmST_go hv hR (K := K) hA
  have hclr := h.wn.clr
  have hgas := h.wn.gas
  have e0 : v.sc.ref = v.ref := rfl
  have hsr := hW.sr
  have hb1 := hW.b1
  have hd1 := hW.d1
  have hz : ∀ x, Wd x → (wv x = 0 ↔ x = [0, 0, 0, 0]) := fun x hx => (wv_zero hx).symm
  have hS := stor_go (v := v.warmST A K) hsr.go.inv (A := A) (K := K) (n := n) (hsr.go.ent _ hA) hW.gs (by have := hsr.go.j; have := hR.j; omega) (by rw [hsr.clr, hsr.ref]; omega) (by rw [hsr.ref]; have := hR.r; omega)
    (by rw [hW.val, hW.orig]; intro x hx; simp at hx; rcases hx with hx | hx | hx <;> subst hx; exact hz _ hn; exact hz _ (sval_wd hty A K); exact hz _ (sorig_wd hty A K)) (!v.isWarmS A K)
  rw [hW.val, hW.orig] at hS
  generalize hr : sstoreW (v.sorig A K) (v.sval A K) n (!v.isWarmS A K) = r at *
  obtain ⟨rc, ru, rd⟩ := r
  obtain ⟨s1, s2, s3, dj2, dk, dr, s4, s5, s6, s7⟩ := hS
  dsimp only at s2 s3 s4 s5 s7 ⊢
  have htr := hsr.trans s4
  refine ⟨v.warmST A K, (v.warmST A K).storeT A K n, ((v.warmST A K).storeT A K n).refDT rd, (((v.warmST A K).storeT A K n).refDT rd).refUT ru, ?_, ?_, ?_, ?_, ?_, ?_, ?_, ?_, ?_, ?_, ?_, ?_⟩
  · intro hc; unfold V.warmST; rw [if_neg hc]; exact Prod.ext (hw hc) rfl
  · intro hc; unfold V.warmST; rw [if_pos hc]
  · intro hc; unfold V.storeT; rw [hW.val, if_neg hc]; exact Prod.ext (s1 hc) rfl
  · intro hc; unfold V.storeT; rw [hW.val, if_pos hc]
  · intro hc; have := s2 hc; unfold V.refDT; rw [if_pos hc]; exact Prod.ext this rfl
  · intro hc; unfold V.refDT; rw [if_neg hc]
  · intro hc; have := s3 hc; unfold V.refUT; rw [if_pos hc]; exact Prod.ext this rfl
  · intro hc; unfold V.refUT; rw [if_neg hc]
  · intro hL
    by_cases hwm : v.isWarmS A K = true
    · obtain ⟨e1, e2⟩ := hW.wm hwm
      rw [if_pos hwm] at hL
      exact h.sr hsr hb1 (by omega) (by omega) (by omega) (by omega)
    · rw [if_neg hwm] at hL
      exact h.sr hsr hb1 (by omega) (by omega) (by omega) (by omega)
  · exact ⟨hsr.go.inv, hsr.go.ent, hsr.go.nm⟩
  · intro hL
    rw [hr] at hL
    replace hL : s + rc ≤ sS := hL
    by_cases hwm : v.isWarmS A K = true
    · obtain ⟨e1, e2⟩ := hW.wm hwm
      simp only [hwm, al_bnt, Bool.false_eq_true, al_i0] at s5 s7
      exact h.sr htr (by omega) (by omega) (by omega) (by omega) (by omega)
    · have hwf : v.isWarmS A K = false := by simpa using hwm
      simp only [hwf, al_bnf, if_true] at s5 s7
      exact h.sr htr (by omega) (by omega) (by omega) (by omega) (by omega)
  · exact ⟨htr.go.inv, htr.go.ent, htr.go.nm⟩

end Go.Proofs.YgvadwGreat
