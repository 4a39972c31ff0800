import Derived.Test.YgvadwGreatNc
namespace Go.Proofs.YgvadwGreat
set_option linter.unusedSimpArgs false
set_option linter.unusedVariables false
def EndP (scan : List Int → List Int) (m : Mc) (t : Nat) (f : Fm) (S : Int) (v' : V) (m' : Mc) : Prop :=
  (t = 0 ∧ EI v' m' S ∧ gasOf m'.frames 0 ≤ f.gas) ∨ (∃ s, t = s + 1 ∧ RI scan v' m' s 0 S ∧ gasTo m'.frames (s + 1) ≤ gasTo m.frames (t + 1))
theorem szOf_set {b : List Int} {t i : Nat} {x : Int} (hi : i < t) : szOf (b.set (t + 1) x) i = szOf b i := by
  unfold szOf baseOf
  rw [List.getElem?_set_ne (by omega), List.getElem?_set_ne (by omega)]
theorem baseOf_set {b : List Int} {t : Nat} {x : Int} (h : t + 1 < b.length) : baseOf (b.set (t + 1) x) (t + 1) = x ∧ baseOf (b.set (t + 1) x) t = baseOf b t := by
  unfold baseOf
  rw [List.getElem?_set_self h, List.getElem?_set_ne (by omega)]
  exact ⟨rfl, rfl⟩
theorem RI.base_le {scan : List Int → List Int} {v : V} {m : Mc} {t : Nat} {c S : Int} (h : RI scan v m t c S) : ∀ i, i ≤ t + 1 → baseOf m.base i ≤ 717280 * (i : Int)
  | 0, _ => by rw [baseOf_some h.ti.b0]; omega
  | i + 1, hi => by
    have h1 := RI.base_le h i (by omega)
    have h2 := (h.bs i (by omega)).2.2
    unfold szOf at h2
    omega
/-- Gas is paid, and the memory grown by what was paid for it. -/
theorem RI.pay {scan : List Int → List Int} {v : V} {m : Mc} {t : Nat} {S : Int} (h : RI scan v m t 0 S) (hty : MTy m) {f : Fm} (hf : m.frames[t]? = some f) {c : Int} (hc : 0 ≤ c ∧ c ≤ f.gas) {buf' : SV} {base' : List Int} (hbl : buf'.2.1 ≤ 5020960)
    (hb : (base' = m.base ∧ buf' = m.buf) ∨ ∃ (lo words : Nat), m.base[t]? = some (lo : Int) ∧ base' = m.base.set (t + 1) ((lo + 32 * words : Nat) : Int) ∧ words ≤ 22415 ∧ lo + 32 * words ≤ buf'.2.1 ∧ memCost words - memCost ((szOf m.base t + 31) / 32) ≤ c) :
    RI scan v { m with buf := buf', base := base', frames := m.frames.set t { f with gas := f.gas - c } } t c S ∧ gasTo (m.frames.set t { f with gas := f.gas - c }) (t + 1) + c = gasTo m.frames (t + 1) := by
  have hl := lt_of_getElem? hf
  have hgf := gasOf_some hf
  have h6 := h.t6
  have hb8 : t + 1 < m.base.length := by rw [hty.base.1]; omega
  have hg : gasTo (m.frames.set t { f with gas := f.gas - c }) (t + 1) + c = gasTo m.frames (t + 1) := by
    simp only [gasTo]
    rw [gasTo_congr t (l := m.frames) (fun i hi => by rw [gasOf_set hl, if_neg (by omega)]), gasOf_set hl, if_pos rfl, hgf]
    show _ + (f.gas - c) + c = _
    omega
  have hszl : ∀ i, i < t → szOf base' i = szOf m.base i := by
    intro i hi
    rcases hb with ⟨hb, _⟩ | ⟨lo, words, _, hb, _⟩
    · rw [hb]
    · rw [hb]; exact szOf_set hi
  have hget : ∀ i f', i ≤ t → (m.frames.set t { f with gas := f.gas - c })[i]? = some f' → (i < t ∧ m.frames[i]? = some f') ∨ (i = t ∧ f' = { f with gas := f.gas - c }) := by
    intro i f' hi hf'
    rcases getElem?_setD hf hf' with ⟨h1, h2⟩ | ⟨h1, h2⟩
    · exact Or.inl ⟨by omega, h2⟩
    · exact Or.inr ⟨h1, h2⟩
  have hb0 : base'[0]? = some 0 := by
    rcases hb with ⟨hb, _⟩ | ⟨lo, words, _, hb, _⟩
    · rw [hb]; exact h.ti.b0
    · rw [hb, List.getElem?_set_ne (by omega)]; exact h.ti.b0
  have hszt : 0 ≤ szOf base' t ∧ szOf base' t % 32 = 0 ∧ szOf base' t ≤ 717280 := by
    rcases hb with ⟨hb, _⟩ | ⟨lo, words, hlo, hb, hw, _⟩
    · rw [hb]; exact h.bs t (Nat.le_refl _)
    · have e1 := baseOf_some hlo
      obtain ⟨e2, e3⟩ := baseOf_set (x := ((lo + 32 * words : Nat) : Int)) hb8
      rw [hb]; unfold szOf; rw [e2, e3, e1]; omega
  have hmc : costTo (m.frames.set t { f with gas := f.gas - c }) base' (t + 1) ≤ 1048576 := by
    have h1 := h.mc
    simp only [costTo] at h1 ⊢
    rw [costTo_congr t (l := m.frames) (b := m.base) (fun i hi => ⟨by rw [gasOf_set hl, if_neg (by omega)], hszl i hi⟩), gasOf_set hl, if_pos rfl]
    rw [hgf] at h1
    show _ + (f.gas - c + memCost ((szOf base' t + 31) / 32)) ≤ _
    rcases hb with ⟨hb, _⟩ | ⟨lo, words, hlo, hb, hw, _, hd⟩
    · rw [hb]; omega
    · have e1 := baseOf_some hlo
      obtain ⟨e2, e3⟩ := baseOf_set (x := ((lo + 32 * words : Nat) : Int)) hb8
      have e4 : (szOf base' t + 31) / 32 = words := by rw [hb]; unfold szOf; rw [e2, e3, e1]; omega
      rw [e4]; omega
  have hbt : baseOf base' (t + 1) ≤ buf'.2.1 := by
    rcases hb with ⟨hb, hb2⟩ | ⟨lo, words, hlo, hb, hw, hle, _⟩
    · rw [hb, hb2]; exact h.bt
    · obtain ⟨e2, e3⟩ := baseOf_set (x := ((lo + 32 * words : Nat) : Int)) hb8
      rw [hb, e2]; omega
  have hgs := h.gs
  refine ⟨⟨{ h.ti with b0 := hb0, bl := hbl }, h.ph, h.top, h.t6, h.st, h.mtY, ?_, ?_, ?_, ?_, ?_, ?_, hbt, hc.1, ?_, hmc, ?_⟩, hg⟩
  · intro i f' hi hf'
    rcases hget i f' hi hf' with ⟨h1, h2⟩ | ⟨h1, h2⟩
    · exact h.fr i f' hi h2
    · subst h1; subst h2
      exact { (h.fr i f hi hf) with }
  · intro i f' g' hi hf' hg'
    have key : ∀ f0 g0, m.frames[i]? = some f0 → m.frames[i + 1]? = some g0 → f'.pc = f0.pc → f'.cb = f0.cb → f'.sp = f0.sp → f'.outLen = f0.outLen → f'.outOff = f0.outOff → g'.kind = g0.kind → WFK { m with buf := buf', base := base', frames := m.frames.set t { f with gas := f.gas - c } } i f' g' := by
      intro f0 g0 h1 h2 e1 e2 e3 e4 e5 e6
      have hk := h.wt i f0 g0 hi h1 h2
      refine ⟨by rw [e1, e2]; exact hk.pc, by rw [e6]; exact hk.kd, by rw [e1, e2, e6]; exact hk.op, by rw [e3]; exact hk.sp, ?_⟩
      rw [e4, e5, e6]
      show _ ∨ (_ ∧ _ ≤ szOf base' i)
      rw [hszl i hi]
      exact hk.out
    rcases hget i f' (by omega) hf' with ⟨h1, h2⟩ | ⟨h1, h2⟩
    · rcases hget (i + 1) g' (by omega) hg' with ⟨h3, h4⟩ | ⟨h3, h4⟩
      · exact key f' g' h2 h4 rfl rfl rfl rfl rfl rfl
      · subst h4
        exact key f' f h2 (by rw [h3]; exact hf) rfl rfl rfl rfl rfl rfl
    · omega
  · intro i f' hi hf'
    rcases hget i f' hi hf' with ⟨h1, h2⟩ | ⟨h1, h2⟩
    · exact h.sn i f' hi h2
    · subst h1; subst h2; exact h.sn i f hi hf
  · intro i f' g' hi hf' hg'
    rcases hget i f' (by omega) hf' with ⟨h1, h2⟩ | ⟨h1, h2⟩
    · rcases hget (i + 1) g' (by omega) hg' with ⟨h3, h4⟩ | ⟨h3, h4⟩
      · exact h.sm i f' g' hi h2 h4
      · subst h4; exact h.sm i f' f hi h2 (by rw [h3]; exact hf)
    · omega
  · intro f' hf'
    rcases hget 0 f' (by omega) hf' with ⟨h1, h2⟩ | ⟨h1, h2⟩
    · exact h.s0 f' h2
    · subst h2; exact h.s0 f (by rw [h1]; exact hf)
  · intro i hi
    show 0 ≤ szOf base' i ∧ szOf base' i % 32 = 0 ∧ szOf base' i ≤ 717280
    rcases Nat.lt_or_eq_of_le hi with hi | hi
    · rw [hszl i hi]; exact h.bs i (by omega)
    · subst hi; exact hszt
  · show gasTo (m.frames.set t { f with gas := f.gas - c }) (t + 1) + c ≤ m.txgas
    omega
  · show RW v _ S (m.txgas - gasTo (m.frames.set t { f with gas := f.gas - c }) (t + 1) - c)
    have e : m.txgas - gasTo (m.frames.set t { f with gas := f.gas - c }) (t + 1) - c = m.txgas - gasTo m.frames (t + 1) - 0 := by omega
    rw [e]
    have hr := h.rw_
    exact ⟨hr.s0, hr.j, hr.l, hr.n, hr.t, hr.a, hr.sl, hr.wp, hr.wn⟩
/-- what the gas that is not paid for memory leaves -/
theorem RI.payc {scan : List Int → List Int} {v : V} {m : Mc} {t : Nat} {S : Int} (h : RI scan v m t 0 S) (hty : MTy m) {f : Fm} (hf : m.frames[t]? = some f) {c d : Int} (hd : d ≤ c) {base' : List Int}
    (hb : base' = m.base ∨ ∃ (lo words : Nat), m.base[t]? = some (lo : Int) ∧ base' = m.base.set (t + 1) ((lo + 32 * words : Nat) : Int) ∧ memCost words - memCost ((szOf m.base t + 31) / 32) + d ≤ c) :
    costTo (m.frames.set t { f with gas := f.gas - c }) base' (t + 1) + d ≤ 1048576 := by
  have hl := lt_of_getElem? hf
  have hgf := gasOf_some hf
  have h6 := h.t6
  have hb8 : t + 1 < m.base.length := by rw [hty.base.1]; omega
  have hszl : ∀ i, i < t → szOf base' i = szOf m.base i := by
    intro i hi
    rcases hb with hb | ⟨lo, words, _, hb, _⟩
    · rw [hb]
    · rw [hb]; exact szOf_set hi
  have h1 := h.mc
  simp only [costTo] at h1 ⊢
  rw [costTo_congr t (l := m.frames) (b := m.base) (fun i hi => ⟨by rw [gasOf_set hl, if_neg (by omega)], hszl i hi⟩), gasOf_set hl, if_pos rfl]
  rw [hgf] at h1
  show _ + (f.gas - c + memCost ((szOf base' t + 31) / 32)) + d ≤ _
  rcases hb with hb | ⟨lo, words, hlo, hb, hd2⟩
  · rw [hb]; omega
  · have e1 := baseOf_some hlo
    obtain ⟨e2, e3⟩ := baseOf_set (x := ((lo + 32 * words : Nat) : Int)) hb8
    have e4 : (szOf base' t + 31) / 32 = words := by rw [hb]; unfold szOf; rw [e2, e3, e1]; omega
    rw [e4]; omega
/-- An instruction has been let pass: its gas is paid, and its memory is there. -/
structure Adm (scan : List Int → List Int) (v : V) (m : Mc) (t : Nat) (f : Fm) (o s c S : Int) : Prop where
  ri : RI scan v m t c S
  fr : m.frames[t]? = some f
  cs : s ≤ c
  dy : isFlat o = false → ∃ x, DynR m v f o x ∧ s + x ≤ c
  re : isFlat o = false → (reachesW m f o).2 = true ∧ 32 * (reachesW m f o).1 ≤ szOf m.base t
  cr : (o = 240 ∨ o = 245) → wv (m.argW f 2) ≤ 512
  j1 : o = 86 → wv (m.argW f 0) < f.cb.length ∧ wv (m.argW f 0) < 512
  j2 : o = 87 → ¬ wv (m.argW f 1) = 0 → wv (m.argW f 0) < f.cb.length ∧ wv (m.argW f 0) < 512
  mc : isFlat o = false → ∃ x, DynR m v f o x ∧ s + x ≤ c ∧ costTo m.frames m.base (t + 1) + (s + x) ≤ 1048576
end Go.Proofs.YgvadwGreat
