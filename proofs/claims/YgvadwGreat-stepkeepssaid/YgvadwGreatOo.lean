import Derived.Test.YgvadwGreatOn
namespace Go.Proofs.YgvadwGreat
set_option linter.unusedSimpArgs false
set_option linter.unusedVariables false
/-- the world is named -/
theorem W_gen {P : Program} {n : Nat} {c : Code} {Q : Post} {ρ : Nat → Value} {w : World} (h : ∀ w', w' = w → W P n c Q ρ w') : W P n c Q ρ w := h w rfl
/-- The top frame is set, and x gas goes from the credit to it. -/
theorem RI.set2 {scan : List Int → List Int} {v v' : V} {m : Mc} {t : Nat} {c S : Int} (h : RI scan v m t c S) {f f' : Fm} (hf : m.frames[t]? = some f) {stk : List (List Int)} {ret' : SV} (x : Int)
    (hr : RW v' m S (m.txgas - gasTo m.frames (t + 1) - c)) (hv : VInv v') (he : ∀ A, v.entered A → v'.entered A) (hn : v.nmarks ≤ v'.nmarks) (hrt : ret'.2.1 ≤ 717280 ∧ ret'.2.1 ≤ ret'.2.2)
    (hx : x ≤ c) (hmc : costTo m.frames m.base (t + 1) + x ≤ 1048576)
    (e1 : f'.gas = f.gas + x) (e2 : f'.snap = f.snap) (e3 : f'.kind = f.kind) (hk : FOK scan v' t f') : RI scan v' { m with stack := stk, ret := ret', frames := m.frames.set t f' } t (c - x) S ∧ gasTo (m.frames.set t f') (t + 1) = gasTo m.frames (t + 1) + x := by
  have hl := lt_of_getElem? hf
  have hgf := gasOf_some hf
  have hg : gasTo (m.frames.set t f') (t + 1) = gasTo m.frames (t + 1) + x := by
    simp only [gasTo]
    rw [gasTo_congr t (l := m.frames) (fun i hi => by rw [gasOf_set hl, if_neg (by omega)]), gasOf_set hl, if_pos rfl, hgf, e1]
    omega
  have hget : ∀ i f'', i ≤ t → (m.frames.set t f')[i]? = some f'' → (i < t ∧ m.frames[i]? = some f'') ∨ (i = t ∧ f'' = f') := by
    intro i f'' hi hf''
    rcases getElem?_setD hf hf'' with ⟨h1, h2⟩ | ⟨h1, h2⟩
    · exact Or.inl ⟨by omega, h2⟩
    · exact Or.inr ⟨h1, h2⟩
  have hgs := h.gs
  have hc0 := h.c0
  refine ⟨⟨{ (h.ti.go hv he) with rt := hrt }, h.ph, h.top, h.t6, h.st, h.mtY, ?_, ?_, ?_, ?_, ?_, h.bs, h.bt, by omega, ?_, ?_, ?_⟩, hg⟩
  · intro i f'' hi hf''
    rcases hget i f'' hi hf'' with ⟨h1, h2⟩ | ⟨h1, h2⟩
    · exact (h.fr i f'' hi h2).ent he
    · subst h1; subst h2; exact hk
  · intro i f'' g' hi hf'' hg'
    rcases hget i f'' (by omega) hf'' with ⟨h1, h2⟩ | ⟨h1, h2⟩
    · rcases hget (i + 1) g' (by omega) hg' with ⟨h3, h4⟩ | ⟨h3, h4⟩
      · have hw := h.wt i f'' g' hi h2 h4
        exact ⟨hw.pc, hw.kd, hw.op, hw.sp, hw.out⟩
      · subst h4
        have hw := h.wt i f'' f hi h2 (by rw [h3]; exact hf)
        exact ⟨hw.pc, by rw [e3]; exact hw.kd, by rw [e3]; exact hw.op, hw.sp, by rw [e3]; exact hw.out⟩
    · omega
  · intro i f'' hi hf''
    rcases hget i f'' hi hf'' with ⟨h1, h2⟩ | ⟨h1, h2⟩
    · have := h.sn i f'' hi h2; omega
    · subst h1; subst h2; have := h.sn i f hi hf; omega
  · intro i f'' g' hi hf'' hg'
    rcases hget i f'' (by omega) hf'' with ⟨h1, h2⟩ | ⟨h1, h2⟩
    · rcases hget (i + 1) g' (by omega) hg' with ⟨h3, h4⟩ | ⟨h3, h4⟩
      · exact h.sm i f'' g' hi h2 h4
      · subst h4; rw [e2]; exact h.sm i f'' f hi h2 (by rw [h3]; exact hf)
    · omega
  · intro f'' hf''
    rcases hget 0 f'' (by omega) hf'' with ⟨h1, h2⟩ | ⟨h1, h2⟩
    · exact h.s0 f'' h2
    · subst h2; rw [e2]; exact h.s0 f (by rw [h1]; exact hf)
  · show gasTo (m.frames.set t f') (t + 1) + (c - x) ≤ m.txgas
    omega
  · show costTo (m.frames.set t f') m.base (t + 1) ≤ _
    have h1 := hmc
    simp only [costTo] at h1 ⊢
    rw [costTo_congr t (l := m.frames) (b := m.base) (fun i hi => ⟨by rw [gasOf_set hl, if_neg (by omega)], rfl⟩), gasOf_set hl, if_pos rfl, e1]
    rw [hgf] at h1
    omega
  · show RW v' _ S (m.txgas - gasTo (m.frames.set t f') (t + 1) - (c - x))
    have e : m.txgas - gasTo (m.frames.set t f') (t + 1) - (c - x) = m.txgas - gasTo m.frames (t + 1) - c := by omega
    rw [e]
    exact ⟨hr.s0, hr.j, hr.l, hr.n, hr.t, hr.a, hr.sl, hr.wp, hr.wn⟩
/-- A frame is laid on top. -/
theorem RI.enter {scan : List Int → List Int} {v y : V} {m : Mc} {t : Nat} {c S x : Int} {dj da : Nat} (h : RI scan v m t c S) (hl7 : m.frames.length = 7) (hb8 : m.base.length = 8) (ht5 : t ≤ 5) {f g : Fm} (hf : m.frames[t]? = some f) (hbx : m.base[t + 1]? = some x) (hadv : Adv v y dj da 1)
    (hr : RW y m S (m.txgas - gasTo m.frames (t + 1) - g.gas)) (hgc : g.gas ≤ c) (hmc : costTo m.frames m.base (t + 1) + g.gas ≤ 1048576) (hk : FOK scan y (t + 1) g) (hw : WFK m t f g) (hsn : g.snap = v.nmarks) :
    RI scan y (m.enter (t + 1) x g) (t + 1) 0 S ∧ gasTo (m.frames.set (t + 1) g) (t + 2) = gasTo m.frames (t + 1) + g.gas := by
  have hl : t + 1 < m.frames.length := by omega
  have hgs := h.gs
  have hnm := hadv.nm
  have hg : gasTo (m.frames.set (t + 1) g) (t + 2) = gasTo m.frames (t + 1) + g.gas := by
    show gasTo (m.frames.set (t + 1) g) (t + 1) + gasOf (m.frames.set (t + 1) g) (t + 1) = _
    rw [gasTo_congr (t + 1) (l := m.frames) (fun i hi => by rw [gasOf_set hl, if_neg (by omega)]), gasOf_set hl, if_pos rfl]
  have hget : ∀ i f'', i ≤ t + 1 → (m.frames.set (t + 1) g)[i]? = some f'' → (i ≤ t ∧ m.frames[i]? = some f'') ∨ (i = t + 1 ∧ f'' = g) := by
    intro i f'' hi hf''
    by_cases e : i = t + 1
    · subst e; rw [List.getElem?_set_self hl] at hf''; injection hf'' with hf''; exact Or.inr ⟨rfl, hf''.symm⟩
    · rw [List.getElem?_set_ne (fun e' => e e'.symm)] at hf''; exact Or.inl ⟨by omega, hf''⟩
  obtain ⟨eb1, eb2⟩ := baseOf_set (b := m.base) (t := t + 1) (x := x) (by omega)
  have eb3 := baseOf_some hbx
  have hszl : ∀ i, i ≤ t → szOf (m.base.set (t + 1 + 1) x) i = szOf m.base i := fun i hi => szOf_set (by omega)
  have hsz0 : szOf (m.base.set (t + 1 + 1) x) (t + 1) = 0 := by unfold szOf; rw [eb1, eb2, eb3]; omega
  refine ⟨⟨{ (h.ti.go hadv.vi hadv.en) with rt := ?_, b0 := ?_ }, rfl, rfl, by omega, h.st, rfl, ?_, ?_, ?_, ?_, ?_, ?_, ?_, Int.le_refl _, ?_, ?_, ?_⟩, hg⟩
  · exact ⟨by show 0 ≤ 717280; decide, Nat.le_refl _⟩
  · show (m.base.set (t + 1 + 1) x)[0]? = some 0
    rw [List.getElem?_set_ne (by omega)]; exact h.ti.b0
  · intro i f'' hi hf''
    rcases hget i f'' hi hf'' with ⟨h1, h2⟩ | ⟨h1, h2⟩
    · exact (h.fr i f'' h1 h2).ent hadv.en
    · subst h1; subst h2; exact hk
  · intro i f'' g' hi hf'' hg'
    rcases hget i f'' (by omega) hf'' with ⟨h1, h2⟩ | ⟨h1, h2⟩
    · rcases hget (i + 1) g' (by omega) hg' with ⟨h3, h4⟩ | ⟨h3, h4⟩
      · have hw := h.wt i f'' g' (by omega) h2 h4
        exact ⟨hw.pc, hw.kd, hw.op, hw.sp, by show _ ∨ (_ ∧ _ ≤ szOf (m.base.set (t + 1 + 1) x) i); rw [hszl i h1]; exact hw.out⟩
      · have e : i = t := by omega
        subst e; subst h4
        rw [hf] at h2; injection h2 with h2; subst h2
        exact ⟨hw.pc, hw.kd, hw.op, hw.sp, by show _ ∨ (_ ∧ _ ≤ szOf (m.base.set (i + 1 + 1) x) i); rw [hszl i h1]; exact hw.out⟩
    · omega
  · intro i f'' hi hf''
    rcases hget i f'' hi hf'' with ⟨h1, h2⟩ | ⟨h1, h2⟩
    · have := h.sn i f'' h1 h2; omega
    · subst h2; have := (h.sn t f (Nat.le_refl _) hf); omega
  · intro i f'' g' hi hf'' hg'
    rcases hget i f'' (by omega) hf'' with ⟨h1, h2⟩ | ⟨h1, h2⟩
    · rcases hget (i + 1) g' (by omega) hg' with ⟨h3, h4⟩ | ⟨h3, h4⟩
      · exact h.sm i f'' g' (by omega) h2 h4
      · subst h4; have := h.sn i f'' h1 h2; omega
    · omega
  · intro f'' hf''
    rcases hget 0 f'' (by omega) hf'' with ⟨h1, h2⟩ | ⟨h1, h2⟩
    · exact h.s0 f'' h2
    · omega
  · intro i hi
    show 0 ≤ szOf (m.base.set (t + 1 + 1) x) i ∧ _
    rcases Nat.lt_or_eq_of_le hi with hi | hi
    · show 0 ≤ szOf (m.base.set (t + 1 + 1) x) i ∧ szOf (m.base.set (t + 1 + 1) x) i % 32 = 0 ∧ szOf (m.base.set (t + 1 + 1) x) i ≤ 717280
      rw [hszl i (by omega)]; exact h.bs i (by omega)
    · subst hi; show 0 ≤ szOf (m.base.set (t + 1 + 1) x) (t + 1) ∧ szOf (m.base.set (t + 1 + 1) x) (t + 1) % 32 = 0 ∧ szOf (m.base.set (t + 1 + 1) x) (t + 1) ≤ 717280
      rw [hsz0]; decide
  · show baseOf (m.base.set (t + 1 + 1) x) (t + 1 + 1) ≤ m.buf.2.1
    rw [eb1, ← eb3]; exact h.bt
  · show gasTo (m.frames.set (t + 1) g) (t + 2) + 0 ≤ m.txgas
    omega
  · show costTo (m.frames.set (t + 1) g) (m.base.set (t + 1 + 1) x) (t + 1) + (gasOf (m.frames.set (t + 1) g) (t + 1) + memCost ((szOf (m.base.set (t + 1 + 1) x) (t + 1) + 31) / 32)) ≤ 1048576
    rw [costTo_congr (t + 1) (l := m.frames) (b := m.base) (fun i hi => ⟨by rw [gasOf_set hl, if_neg (by omega)], hszl i (by omega)⟩), gasOf_set hl, if_pos rfl, hsz0]
    have : memCost ((0 + 31) / 32) = 0 := by decide
    rw [this]; omega
  · show RW y _ S (m.txgas - gasTo (m.frames.set (t + 1) g) (t + 2) - 0)
    have e : m.txgas - gasTo (m.frames.set (t + 1) g) (t + 2) - 0 = m.txgas - gasTo m.frames (t + 1) - g.gas := by omega
    rw [e]
    exact ⟨hr.s0, hr.j, hr.l, hr.n, hr.t, hr.a, hr.sl, hr.wp, hr.wn⟩
theorem zF_ty : FmTy zF := by
  constructor <;> first | decide | (unfold I32; decide) | exact ⟨rfl, by decide⟩
/-- what a call's switch comes to -/
structure CallK (m : Mc) (f : Fm) (o : Int) (n : Nat) (TA : List Int) (K : Fm) (val : List Int) (inn : Int) : Prop where
  ty : FmTy K
  wd : Wd val
  shape : ∃ k s a b x, K = kF k 0 s a b x (none, 0, 0)
  kd : K.kind = 2 ∨ K.kind = 3 ∨ K.kind = 4 ∨ K.kind = 7
  op : o = kindOpW K.kind
  self : K.self = TA ∨ K.self = f.self
  mv : K.kind ≠ 3 → K.kind ≠ 7 → K.caller = f.self ∧ wv K.value = wv val
  i23 : inn = 2 ∨ inn = 3
  tk : (infoW o).1 = inn + 4
  vv : ¬ wv val = 0 → ¬ wv (m.argW f 2) = 0 ∧ (o = 241 ∨ o = 242)
  r1 : wv (m.argW f (inn + 1)) = 0 ∨ wv (m.argW f inn) + wv (m.argW f (inn + 1)) ≤ n
  r2 : wv (m.argW f (inn + 3)) = 0 ∨ wv (m.argW f (inn + 2)) + wv (m.argW f (inn + 3)) ≤ n
theorem callR {m : Mc} {f : Fm} {o inn : Int} {n : Nat} (hm : MTy m) (hre : (reachesW m f o).2 = true ∧ 32 * (reachesW m f o).1 ≤ n) (hi : (inn = 3 ∧ (o = 241 ∨ o = 242)) ∨ (inn = 2 ∧ (o = 244 ∨ o = 250))) :
    (wv (m.argW f (inn + 1)) = 0 ∨ wv (m.argW f inn) + wv (m.argW f (inn + 1)) ≤ n) ∧ (wv (m.argW f (inn + 3)) = 0 ∨ wv (m.argW f (inn + 2)) + wv (m.argW f (inn + 3)) ≤ n) := by
  have hr : (reachesW m f o) = (max (reachW (m.argW f inn) (m.argW f (inn + 1))).1 (reachW (m.argW f (inn + 2)) (m.argW f (inn + 3))).1, (reachW (m.argW f inn) (m.argW f (inn + 1))).2 && (reachW (m.argW f (inn + 2)) (m.argW f (inn + 3))).2) := by
    rcases hi with ⟨rfl, rfl | rfl⟩ | ⟨rfl, rfl | rfl⟩ <;> rfl
  rw [hr] at hre
  have h1 := (Bool.and_eq_true _ _).mp hre.1
  have h2 := hre.2
  simp only at h2
  constructor
  · rcases reach_fit (argW_wd hm f (inn + 1)) h1.1 with h | h
    · exact Or.inl h
    · exact Or.inr (by omega)
  · rcases reach_fit (argW_wd hm f (inn + 3)) h1.2 with h | h
    · exact Or.inl h
    · exact Or.inr (by omega)
end Go.Proofs.YgvadwGreat
