
import Derived.Test.YgvacwGreatNa
namespace Go.Proofs.YgvacwGreat
set_option linter.unusedSimpArgs false
set_option linter.unusedVariables false
/-! a frame ends -/
def Mc.popE (m : Mc) (f : Fm) (g st : Int) (out : SV) : Mc := { m with mtop := 0, ret := out, top := -1, phase := 2, status := st, frames := m.frames.set 0 { f with gas := g } }
def Mc.popP (m : Mc) (s : Nat) (p : Fm) (g : Int) (out : SV) (W : List Int) : Mc :=
  Mc.settle { m with mtop := (s : Int) + 1, ret := out, top := (s : Int), frames := m.frames.set s { p with gas := p.gas + g } } s { p with gas := p.gas + g } 0 true W 1
theorem popE_inv {scan : List Int → List Int} {v v' : V} {m : Mc} {c S : Int} {f : Fm} {g st : Int} {out : SV} (h : RI scan v m 0 c S) (hf : m.frames[0]? = some f) (hg : 0 ≤ g ∧ g ≤ f.gas) (hst : 0 ≤ st ∧ st ≤ 11) (ho : out.2.1 ≤ 717280 ∧ out.2.1 ≤ out.2.2)
    (hv : VInv v') (he : ∀ A, v.entered A → v'.entered A) (hr : RW v' m S (m.txgas - g)) : EI v' (m.popE f g st out) S := by
  have hl := lt_of_getElem? hf
  have hg0 := gasOf_some hf
  have hgs := h.gs
  simp only [gasTo, hg0] at hgs
  have hc0 := h.c0
  have e : gasOf (m.frames.set 0 { f with gas := g }) 0 = g := by rw [gasOf_set hl, if_pos rfl]
  refine ⟨{ (h.ti.go hv he) with rt := ho }, rfl, rfl, hst, rfl, ?_, ?_, ?_⟩
  · intro f' hf'
    have hf' : (m.frames.set 0 { f with gas := g })[0]? = some f' := hf'
    rw [List.getElem?_set_self hl] at hf'
    injection hf' with hf'
    subst hf'
    exact h.s0 f hf
  · show gasOf (m.frames.set 0 { f with gas := g }) 0 ≤ m.txgas
    rw [e]; omega
  · show RW v' _ S (m.txgas - gasOf (m.frames.set 0 { f with gas := g }) 0)
    rw [e]
    exact ⟨hr.s0, hr.j, hr.l, hr.n, hr.t, hr.a, hr.sl, hr.wp, hr.wn⟩
theorem popP_frames (m : Mc) (s : Nat) (p : Fm) (g : Int) (out : SV) (W : List Int) : (m.popP s p g out W).frames = m.frames.set s { p with gas := p.gas + g, sp := p.sp - 0 + 1, pc := p.pc + 1 } := by
  unfold Mc.popP Mc.settle
  simp [List.set_set]
theorem popP_inv {scan : List Int → List Int} {v v' : V} {m : Mc} {s : Nat} {c S : Int} {f p : Fm} {g : Int} {out : SV} {W : List Int} (h : RI scan v m (s + 1) c S) (hty : MTy m) (hp : m.frames[s]? = some p) (hf : m.frames[s + 1]? = some f) (hg : 0 ≤ g ∧ g ≤ f.gas) (ho : out.2.1 ≤ 717280 ∧ out.2.1 ≤ out.2.2)
    (hv : VInv v') (he : ∀ A, v.entered A → v'.entered A) (hn : f.snap ≤ v'.nmarks) (hr : RW v' m S (m.txgas - (gasTo m.frames s + p.gas + g))) : RI scan v' (m.popP s p g out W) s 0 S := by
  have hl := lt_of_getElem? hp
  have hfr := popP_frames m s p g out W
  have hgp := gasOf_some hp
  have hgf := gasOf_some hf
  have hgs := h.gs
  have hmc := h.mc
  simp only [gasTo, costTo, hgp, hgf] at hgs hmc
  have hc0 := h.c0
  have hw := h.wt s p f (by omega) hp hf
  have hpk := h.fr s p (by omega) hp
  have hbase : (m.popP s p g out W).base = m.base := rfl
  have hgnew : gasTo (m.popP s p g out W).frames (s + 1) = gasTo m.frames s + p.gas + g := by
    rw [hfr]
    simp only [gasTo]
    rw [gasTo_congr s (l := m.frames) (fun i hi => by rw [gasOf_set hl, if_neg (by omega)]), gasOf_set hl, if_pos rfl]
    show _ + (p.gas + g) = _
    omega
  have hcnew : costTo (m.popP s p g out W).frames m.base (s + 1) = costTo m.frames m.base s + (p.gas + g + memCost ((szOf m.base s + 31) / 32)) := by
    rw [hfr]
    simp only [costTo]
    rw [costTo_congr s (l := m.frames) (b := m.base) (fun i hi => ⟨by rw [gasOf_set hl, if_neg (by omega)], rfl⟩), gasOf_set hl, if_pos rfl]
  have hmn := memCost_nonneg (n := (szOf m.base (s + 1) + 31) / 32) (by have := (h.bs (s + 1) (by omega)).1; omega)
  have hget : ∀ i f', i ≤ s → (m.popP s p g out W).frames[i]? = some f' → (i < s ∧ m.frames[i]? = some f') ∨ (i = s ∧ f' = { p with gas := p.gas + g, sp := p.sp - 0 + 1, pc := p.pc + 1 }) := by
    intro i f' hi hf'
    rw [hfr] at hf'
    rcases getElem?_setD hp hf' with ⟨h1, h2⟩ | ⟨h1, h2⟩
    · exact Or.inl ⟨by omega, h2⟩
    · exact Or.inr ⟨h1, h2⟩
  refine ⟨{ (h.ti.go hv he) with rt := ho }, h.ph, rfl, by have := h.t6; omega, h.st, rfl, ?_, ?_, ?_, ?_, ?_, fun i hi => h.bs i (by omega), ?_, by omega, ?_, ?_, ?_⟩
  · intro i f' hi hf'
    rcases hget i f' hi hf' with ⟨h1, h2⟩ | ⟨h1, h2⟩
    · exact (h.fr i f' (by omega) h2).ent he
    · subst h1; subst h2
      have := hw.pc; have := hw.sp; have := hpk.pc
      exact { (hpk.ent he) with sp := by show p.sp - 0 + 1 ≤ 64; omega, pc := by show p.pc + 1 ≤ (p.cb.length : Int) + 33; omega }
  · intro i f' g' hi hf' hg'
    rcases hget i f' (by omega) hf' with ⟨h1, h2⟩ | ⟨h1, h2⟩
    · rcases hget (i + 1) g' (by omega) hg' with ⟨h3, h4⟩ | ⟨h3, h4⟩
      · have hk := h.wt i f' g' (by omega) h2 h4
        exact ⟨hk.pc, hk.kd, hk.op, hk.sp, hk.out⟩
      · subst h4
        have hk := h.wt i f' p (by omega) h2 (by rw [h3]; exact hp)
        exact ⟨hk.pc, hk.kd, hk.op, hk.sp, hk.out⟩
    · omega
  · intro i f' hi hf'
    have hmono : ∀ j (fj : Fm), j ≤ s → m.frames[j]? = some fj → fj.snap < f.snap := by
      intro j
      induction hk : s - j generalizing j with
      | zero => intro fj hj hfj; obtain rfl : j = s := by omega
                exact h.sm j fj f (by omega) hfj hf
      | succ k ih =>
        intro fj hj hfj
        obtain ⟨fn, hfn⟩ := frames_lt hty (i := j + 1) (by have := h.t6; omega)
        have h1 := h.sm j fj fn (by omega) hfj hfn
        have h2 := ih (j + 1) (by omega) fn (by omega) hfn
        omega
    rcases hget i f' hi hf' with ⟨h1, h2⟩ | ⟨h1, h2⟩
    · have h3 := h.sn i f' (by omega) h2
      have h4 := hmono i f' (by omega) h2
      omega
    · subst h1; subst h2
      have h3 := h.sn i p (by omega) hp
      have h4 := hmono i p (by omega) hp
      show 0 ≤ p.snap ∧ p.snap < v'.nmarks
      omega
  · intro i f' g' hi hf' hg'
    rcases hget i f' (by omega) hf' with ⟨h1, h2⟩ | ⟨h1, h2⟩
    · rcases hget (i + 1) g' (by omega) hg' with ⟨h3, h4⟩ | ⟨h3, h4⟩
      · exact h.sm i f' g' (by omega) h2 h4
      · subst h4; exact h.sm i f' p (by omega) h2 (by rw [h3]; exact hp)
    · omega
  · intro f' hf'
    rcases hget 0 f' (by omega) hf' with ⟨h1, h2⟩ | ⟨h1, h2⟩
    · exact h.s0 f' h2
    · subst h2; exact h.s0 p (by rw [h1]; exact hp)
  · show baseOf m.base (s + 1) ≤ m.buf.2.1
    have h1 := h.bt
    have h2 := (h.bs (s + 1) (by omega)).1
    unfold szOf at h2
    omega
  · rw [hgnew]; show _ ≤ m.txgas; omega
  · rw [hbase, hcnew]; omega
  · show RW v' _ S (m.txgas - gasTo (m.popP s p g out W).frames (s + 1) - 0)
    rw [hgnew]
    have e : m.txgas - (gasTo m.frames s + p.gas + g) - 0 = m.txgas - (gasTo m.frames s + p.gas + g) := by omega
    rw [e]
    exact ⟨hr.s0, hr.j, hr.l, hr.n, hr.t, hr.a, hr.sl, hr.wp, hr.wn⟩
/-- What a step comes to: the machine goes on, or has ended; the measure has fallen. -/
structure Fell (scan : List Int → List Int) (v : V) (m : Mc) (t : Nat) (S : Int) (v' : V) (m' : Mc) : Prop where
  inv : (∃ t', RI scan v' m' t' 0 S ∧ (gasTo m'.frames (t' + 1) < gasTo m.frames (t + 1) ∨ (gasTo m'.frames (t' + 1) = gasTo m.frames (t + 1) ∧ t' < t))) ∨ (EI v' m' S ∧ gasOf m'.frames 0 ≤ gasTo m.frames (t + 1))
end Go.Proofs.YgvacwGreat
