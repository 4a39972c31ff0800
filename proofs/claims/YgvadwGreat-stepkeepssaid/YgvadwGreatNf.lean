import Derived.Test.YgvadwGreatNe
namespace Go.Proofs.YgvadwGreat
set_option linter.unusedSimpArgs false
set_option linter.unusedVariables false
/-- What an operation comes to, of which c gas has been paid. -/
def OpP (scan : List Int → List Int) (m : Mc) (t : Nat) (c S : Int) (v' : V) (m' : Mc) : Prop :=
  (∃ t', RI scan v' m' t' 0 S ∧ (gasTo m'.frames (t' + 1) < gasTo m.frames (t + 1) + c ∨ (gasTo m'.frames (t' + 1) = gasTo m.frames (t + 1) + c ∧ t' < t))) ∨ (EI v' m' S ∧ gasOf m'.frames 0 ≤ gasTo m.frames (t + 1) + c)
theorem EndP.op {scan : List Int → List Int} {v : V} {m : Mc} {t : Nat} {f : Fm} {c c0 S : Int} {v' : V} {m' : Mc} (hI : RI scan v m t c0 S) (hty : MTy m) (hf : m.frames[t]? = some f) (hc : 0 ≤ c) (h : EndP scan m t f S v' m') : OpP scan m t c S v' m' := by
  rcases h with ⟨h1, h2, h3⟩ | ⟨s, h1, h2, h3⟩
  · subst h1
    refine Or.inr ⟨h2, ?_⟩
    have hg : gasTo m.frames (0 + 1) = f.gas := by simp only [gasTo, gasOf_some hf]; omega
    omega
  · subst h1
    refine Or.inl ⟨s, h2, ?_⟩
    omega
/-- The top frame's stack and PC are set, and the vault stands. -/
theorem RI.set {scan : List Int → List Int} {v v' : V} {m : Mc} {t : Nat} {c S : Int} (h : RI scan v m t c S) {f f' : Fm} (hf : m.frames[t]? = some f) {stk : List (List Int)} {ret' : SV}
    (hr : RW v' m S (m.txgas - gasTo m.frames (t + 1))) (hv : VInv v') (he : ∀ A, v.entered A → v'.entered A) (hn : v.nmarks ≤ v'.nmarks) (hrt : ret'.2.1 ≤ 717280 ∧ ret'.2.1 ≤ ret'.2.2)
    (e1 : f'.gas = f.gas) (e2 : f'.snap = f.snap) (e3 : f'.kind = f.kind) (hk : FOK scan v' t f') : RI scan v' { m with stack := stk, ret := ret', frames := m.frames.set t f' } t 0 S ∧ gasTo (m.frames.set t f') (t + 1) = gasTo m.frames (t + 1) := by
  have hl := lt_of_getElem? hf
  have hgf := gasOf_some hf
  have hgo : ∀ i, gasOf (m.frames.set t f') i = gasOf m.frames i := by
    intro i
    rw [gasOf_set hl]
    split
    · rename_i hi; rw [hi, hgf, e1]
    · rfl
  have hg : gasTo (m.frames.set t f') (t + 1) = gasTo m.frames (t + 1) := gasTo_congr _ (fun i _ => hgo i)
  have hget : ∀ i f'', i ≤ t → (m.frames.set t f')[i]? = some f'' → (i < t ∧ m.frames[i]? = some f'') ∨ (i = t ∧ f'' = f') := by
    intro i f'' hi hf''
    rcases getElem?_setD hf hf'' with ⟨h1, h2⟩ | ⟨h1, h2⟩
    · exact Or.inl ⟨by omega, h2⟩
    · exact Or.inr ⟨h1, h2⟩
  have hgs := h.gs
  have hc0 := h.c0
  refine ⟨⟨{ (h.ti.go hv he) with rt := hrt }, h.ph, h.top, h.t6, h.st, h.mtY, ?_, ?_, ?_, ?_, ?_, h.bs, h.bt, Int.le_refl _, ?_, ?_, ?_⟩, hg⟩
  · intro i f'' hi hf''
    rcases hget i f'' hi hf'' with ⟨h1, h2⟩ | ⟨h1, h2⟩
    · exact (h.fr i f'' hi h2).ent he
    · subst h1; subst h2; exact hk
  · intro i f'' g' hi hf'' hg'
    rcases hget i f'' (by omega) hf'' with ⟨h1, h2⟩ | ⟨h1, h2⟩
    · rcases hget (i + 1) g' (by omega) hg' with ⟨h3, h4⟩ | ⟨h3, h4⟩
      · have hw := h.wt i f'' g' hi h2 h4
        exact ⟨hw.pc, hw.kd, hw.op, hw.sp, hw.out⟩
      · subst h4
        have hw := h.wt i f'' f hi h2 (by rw [h3]; exact hf)
        exact ⟨hw.pc, by rw [e3]; exact hw.kd, by rw [e3]; exact hw.op, hw.sp, by rw [e3]; exact hw.out⟩
    · omega
  · intro i f'' hi hf''
    rcases hget i f'' hi hf'' with ⟨h1, h2⟩ | ⟨h1, h2⟩
    · have := h.sn i f'' hi h2; omega
    · subst h1; subst h2; have := h.sn i f hi hf; omega
  · intro i f'' g' hi hf'' hg'
    rcases hget i f'' (by omega) hf'' with ⟨h1, h2⟩ | ⟨h1, h2⟩
    · rcases hget (i + 1) g' (by omega) hg' with ⟨h3, h4⟩ | ⟨h3, h4⟩
      · exact h.sm i f'' g' hi h2 h4
      · subst h4; rw [e2]; exact h.sm i f'' f hi h2 (by rw [h3]; exact hf)
    · omega
  · intro f'' hf''
    rcases hget 0 f'' (by omega) hf'' with ⟨h1, h2⟩ | ⟨h1, h2⟩
    · exact h.s0 f'' h2
    · subst h2; rw [e2]; exact h.s0 f (by rw [h1]; exact hf)
  · show gasTo (m.frames.set t f') (t + 1) + 0 ≤ m.txgas
    omega
  · show costTo (m.frames.set t f') m.base (t + 1) ≤ _
    rw [costTo_congr (t + 1) (l := m.frames) (b := m.base) (fun i _ => ⟨hgo i, rfl⟩)]; exact h.mc
  · show RW v' _ S (m.txgas - gasTo (m.frames.set t f') (t + 1) - 0)
    rw [hg, Int.sub_zero]
    exact ⟨hr.s0, hr.j, hr.l, hr.n, hr.t, hr.a, hr.sl, hr.wp, hr.wn⟩
theorem RI.rw0 {scan : List Int → List Int} {v : V} {m : Mc} {t : Nat} {c S : Int} (h : RI scan v m t c S) : RW v m S (m.txgas - gasTo m.frames (t + 1)) := h.rw_.mono (by have := h.c0; omega)
/-- The operands are taken, a word is given, PC moves on. -/
theorem RI.settle {scan : List Int → List Int} {v v' : V} {m : Mc} {t : Nat} {c S : Int} (h : RI scan v m t c S) {f : Fm} (hf : m.frames[t]? = some f) {k st : Int} {g : Bool} {W : List Int} (hr : RW v' m S (m.txgas - gasTo m.frames (t + 1))) (hv : VInv v') (he : ∀ A, v.entered A → v'.entered A) (hn : v.nmarks ≤ v'.nmarks)
    (hk : 0 ≤ k ∧ k ≤ f.sp) (hg : g = true → f.sp - k < 64) (hst : f.pc + st ≤ (f.cb.length : Int) + 33) (hc : 0 < c) : RI scan v' (m.settle t f k g W st) t 0 S ∧ OpP scan m t c S v' (m.settle t f k g W st) := by
  have hF := h.fr t f (Nat.le_refl _) hf
  have hF' := hF.ent he
  have := h.set (v' := v') (f' := { f with sp := f.sp - k + (if g = true then 1 else 0), pc := f.pc + st }) (stk := if g = true then m.stack.set (f.sbase + f.sp - k).toNat W else m.stack) (ret' := m.ret) hf hr hv he hn h.ti.rt rfl rfl rfl
    { hF' with sp := by show f.sp - k + (if g = true then 1 else 0) ≤ 64
                        have := hF.sp
                        split
                        · rename_i hh; have := hg hh; omega
                        · omega
               pc := hst }
  refine ⟨this.1, Or.inl ⟨t, this.1, Or.inl ?_⟩⟩
  have e := this.2
  show gasTo (m.frames.set t _) (t + 1) < _
  rw [e]; omega
end Go.Proofs.YgvadwGreat
