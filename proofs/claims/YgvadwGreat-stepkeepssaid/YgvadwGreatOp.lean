import Derived.Test.YgvadwGreatOo
namespace Go.Proofs.YgvadwGreat
set_option linter.unusedSimpArgs false
set_option linter.unusedVariables false
theorem MS.castY {w : World} {C : Nat} {c : Array Value} {v : V} {B : VB} {m m' : Mc} (h : MS w C c v B m) (e : m = m') : MS w C c v B m' := e ▸ h
theorem MStep.castY {w w' : World} {C : Nat} {B B' : VB} {m m' m'' : Mc} (h : MStep w w' C B m B' m') (e : m' = m'') : MStep w w' C B m B' m'' := e ▸ h
theorem argW_same {m m' : Mc} {f f' : Fm} (h : m'.stack = m.stack) (e1 : f'.sp = f.sp) (e2 : f'.sbase = f.sbase) (i : Int) : m'.argW f' i = m.argW f i := by unfold Mc.argW; rw [h, e1, e2]
theorem sent_bd {g : Int} {W : List Int} (h : 0 ≤ g) (hW : Wd W) : 0 ≤ sentW g W ∧ sentW g W ≤ g := by
  have := wv_bd hW
  unfold sentW; split <;> omega
/-- the call is not entered -/
theorem call_stay {scan : List Int → List Int} {v v1 : V} {m : Mc} {t : Nat} {c S : Int} (hI : RI scan v m t c S) {f f3 : Fm} (hf : m.frames[t]? = some f) {dj da : Nat} (hadv : Adv v v1 dj da 0) (hda : da ≤ 1) {st : Int} (h0 : 0 ≤ st) (hmc : costTo m.frames m.base (t + 1) + st ≤ 1048576)
    (h1 : 25 * (dj : Int) ≤ c - st) (h2 : 2600 * (da : Int) ≤ c - st) (h3 : st < c) (hf3 : f3 = { f with gas := f.gas + st }) {k : Int} {W : List Int} (hk : 0 ≤ k ∧ k ≤ f.sp) (hg : f.sp - k < 64) (hpc : f.pc + 1 ≤ (f.cb.length : Int) + 33) :
    OpP scan m t c S v1 (({ m with ret := (none, 0, 0), frames := m.frames.set t f3 } : Mc).settle t f3 k true W 1) := by
  subst hf3
  have hF := hI.fr t f (Nat.le_refl _) hf
  obtain ⟨hJ, hgg⟩ := hI.set2 (v' := v) (f' := { f with gas := f.gas + st }) (stk := m.stack) (ret' := (none, 0, 0)) hf st hI.rw_ hI.ti.vi (fun _ h => h) (Int.le_refl _) ⟨by show 0 ≤ 717280; decide, Nat.le_refl _⟩ (by omega) hmc rfl rfl rfl { hF with }
  have hr : RW v1 { m with ret := (none, 0, 0), frames := m.frames.set t { f with gas := f.gas + st } } S (m.txgas - gasTo (m.frames.set t { f with gas := f.gas + st }) (t + 1)) :=
    hI.rw_.adv hadv hda (by omega) (by omega) (by omega) (by omega) (by omega) rfl rfl
  have := hJ.settle (v' := v1) (k := k) (st := 1) (g := true) (W := W) (f := { f with gas := f.gas + st }) (by show (m.frames.set t _)[t]? = _; rw [List.getElem?_set_self (lt_of_getElem? hf)]) hr hadv.vi hadv.en (by rw [hadv.nm]; omega) hk (fun _ => hg) hpc (by omega)
  rcases this.2 with ⟨t', h5, h6⟩ | ⟨h5, h6⟩
  · refine Or.inl ⟨t', h5, ?_⟩
    replace h6 : _ < gasTo (m.frames.set t { f with gas := f.gas + st }) (t + 1) + (c - st) ∨ (_ = gasTo (m.frames.set t { f with gas := f.gas + st }) (t + 1) + (c - st) ∧ t' < t) := h6
    rw [hgg] at h6; omega
  · refine Or.inr ⟨h5, ?_⟩
    replace h6 : _ ≤ gasTo (m.frames.set t { f with gas := f.gas + st }) (t + 1) + (c - st) := h6
    rw [hgg] at h6; omega
/-- a frame is entered -/
theorem call_in {scan : List Int → List Int} {v y : V} {m : Mc} {t : Nat} {c S x : Int} (hI : RI scan v m t c S) (hty : MTy m) (ht5 : t ≤ 5) {f f3 g : Fm} (hf : m.frames[t]? = some f) (hbx : m.base[t + 1]? = some x) {dj da : Nat} (hadv : Adv v y dj da 1) (hda : da ≤ 1) {st sg : Int} (h0 : 0 ≤ st) (hsg : 0 ≤ sg ∧ sg ≤ f.gas) (hmc : costTo m.frames m.base (t + 1) + st ≤ 1048576)
    (h1 : 25 * (dj : Int) ≤ c - st) (h2 : 2600 * (da : Int) ≤ c - st) (h3 : st + 100 ≤ c) {k oo ol : Int} (hf3 : f3 = { f with gas := f.gas - sg, outOff := oo, outLen := ol }) {W : List Int} (hk : 0 ≤ k ∧ k ≤ f.sp)
    (hgg : g.gas = sg + st) (hkk : FOK scan y (t + 1) g) (hsn : g.snap = v.nmarks) (hpc : f.pc < f.cb.length) (hkd : 2 ≤ g.kind) (hop : f.cb.getD f.pc.toNat 0 = kindOpW g.kind) (hsp : f.sp - k ≤ 63) (hout : ol = 0 ∨ (makes g.kind = false ∧ oo + ol ≤ szOf m.base t)) :
    OpP scan m t c S y ((({ m with ret := (none, 0, 0), frames := m.frames.set t f3 } : Mc).settle t f3 k false W 0).enter (t + 1) x g) := by
  subst hf3
  have hF := hI.fr t f (Nat.le_refl _) hf
  obtain ⟨hJ, hg2⟩ := hI.set2 (v' := v) (f' := { f with gas := f.gas - sg, outOff := oo, outLen := ol, sp := f.sp - k + 0, pc := f.pc + 0 }) (stk := m.stack) (ret' := (none, 0, 0)) hf (-sg) hI.rw_ hI.ti.vi (fun _ h => h) (Int.le_refl _) ⟨by show 0 ≤ 717280; decide, Nat.le_refl _⟩ (by omega) (by omega) (by show f.gas - sg = f.gas + -sg; omega) rfl rfl
    { hF with sp := by show f.sp - k + 0 ≤ 64; have := hF.sp; omega, pc := by show f.pc + 0 ≤ (f.cb.length : Int) + 33; have := hF.pc; omega }
  have em : (({ m with ret := (none, 0, 0), frames := m.frames.set t { f with gas := f.gas - sg, outOff := oo, outLen := ol } } : Mc).settle t { f with gas := f.gas - sg, outOff := oo, outLen := ol } k false W 0) = { m with stack := m.stack, ret := (none, 0, 0), frames := m.frames.set t { f with gas := f.gas - sg, outOff := oo, outLen := ol, sp := f.sp - k + 0, pc := f.pc + 0 } } := by
    unfold Mc.settle; simp [List.set_set]
  rw [em]
  have hl := lt_of_getElem? hf
  have hcs : costTo (m.frames.set t { f with gas := f.gas - sg, outOff := oo, outLen := ol, sp := f.sp - k + 0, pc := f.pc + 0 }) m.base (t + 1) = costTo m.frames m.base (t + 1) - sg := by
    simp only [costTo]
    rw [costTo_congr t (l := m.frames) (b := m.base) (fun i hi => ⟨by rw [gasOf_set hl, if_neg (by omega)], rfl⟩), gasOf_set hl, if_pos rfl, gasOf_some hf]
    show _ + (f.gas - sg + _) = _
    omega
  have hr : RW y { m with stack := m.stack, ret := (none, 0, 0), frames := m.frames.set t { f with gas := f.gas - sg, outOff := oo, outLen := ol, sp := f.sp - k + 0, pc := f.pc + 0 } } S (m.txgas - gasTo (m.frames.set t { f with gas := f.gas - sg, outOff := oo, outLen := ol, sp := f.sp - k + 0, pc := f.pc + 0 }) (t + 1) - g.gas) :=
    hI.rw_.adv hadv hda (by omega) (by omega) (by omega) (by omega) (by omega) rfl rfl
  obtain ⟨hE, hg3⟩ := hJ.enter (by show (m.frames.set t _).length = 7; rw [List.length_set]; exact hty.frames.1) hty.base.1 ht5 (f := { f with gas := f.gas - sg, outOff := oo, outLen := ol, sp := f.sp - k + 0, pc := f.pc + 0 }) (g := g) (x := x) (by show (m.frames.set t _)[t]? = _; rw [List.getElem?_set_self hl]) hbx hadv hr (by omega) (by show costTo (m.frames.set t _) m.base (t + 1) + g.gas ≤ _; rw [hcs]; omega) hkk
    ⟨by show f.pc + 0 < (f.cb.length : Int); omega, hkd, by show f.cb.getD (f.pc + 0).toNat 0 = _; rw [Int.add_zero]; exact hop, by show f.sp - k + 0 ≤ 63; omega, hout⟩ hsn
  refine Or.inl ⟨t + 1, hE, Or.inl ?_⟩
  replace hg3 : gasTo ((m.frames.set t { f with gas := f.gas - sg, outOff := oo, outLen := ol, sp := f.sp - k + 0, pc := f.pc + 0 }).set (t + 1) g) (t + 2) = gasTo (m.frames.set t { f with gas := f.gas - sg, outOff := oo, outLen := ol, sp := f.sp - k + 0, pc := f.pc + 0 }) (t + 1) + g.gas := hg3
  show gasTo ((m.frames.set t { f with gas := f.gas - sg, outOff := oo, outLen := ol, sp := f.sp - k + 0, pc := f.pc + 0 }).set (t + 1) g) (t + 2) < _
  rw [hg3, hg2]; omega

end Go.Proofs.YgvadwGreat
