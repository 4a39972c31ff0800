import Derived.Test.YgvacwGreatGy
namespace Go.Proofs.YgvacwGreat
set_option linter.unusedSimpArgs false
set_option linter.unusedVariables false
/-! the frames -/
theorem Xt.appY {r e1 e2 : Array Value} {a b c : Nat} (h1 : Xt r a b e1) (h2 : Xt r b c e2) (hab : a ≤ b) (hbc : b ≤ c) : Xt r a c (e1 ++ e2) := ⟨by
  rw [← h1.h, ← h2.h, Array.extract_append_extract, Nat.min_eq_left hab, Nat.max_eq_right hbc]⟩
theorem Ce.xt {r : Array Value} {a : Nat} {v : Value} (h : Ce r a v) : Xt r a (a + 1) #[v] := ⟨by
  have h1 := h.h
  have h2 : a < r.size := by
    rcases Nat.lt_or_ge a r.size with h | h
    · exact h
    · rw [Array.getElem?_eq_none h] at h1; cases h1
  refine Array.ext_getElem? fun i => ?_
  rw [Array.getElem?_extract]
  rcases Nat.eq_zero_or_pos i with hi | hi
  · subst hi; rw [if_pos (by omega)]; simpa using h1
  · rw [if_neg (by omega), Array.getElem?_eq_none (by simp; omega)]⟩
theorem FC.xt {r : Array Value} {o : Nat} {x : YFr} (h : FC r o x) : Xt r o (o + 60) (encYF x).toArray := by
  have h1 := h.kind.xt.appY h.nat.xt (Nat.le_succ _) (Nat.le_succ _)
  have h2 := h1.appY h.statY.xt (by omega) (by omega)
  have h3 := h2.appY h.pc.xt (by omega) (by omega)
  have h4 := h3.appY h.gas.xt (by omega) (by omega)
  have h5 := h4.appY h.value.xt (by omega) (by omega)
  have h6 := h5.appY h.outOff.xt (by omega) (by omega)
  have h7 := h6.appY h.outLen.xt (by omega) (by omega)
  have h8 := h7.appY h.stack.xt (by omega) (by omega)
  have h9 := h8.appY h.mem.xt (by omega) (by omega)
  have h10 := h9.appY h.code.xt (by omega) (by omega)
  have h11 := h10.appY h.inputY.xt (by omega) (by omega)
  have h12 := h11.appY h.self (by omega) (by omega)
  have h13 := h12.appY h.caller (by omega) (by omega)
  have h14 := h13.appY h.saved (by omega) (by omega)
  have e : (encYF x).toArray = #[Value.int .u8 x.kind] ++ #[.int .u8 x.nat] ++ #[.bool x.statY] ++ #[.slice x.pc.1 x.pc.2.1 x.pc.2.2] ++ #[.slice x.gas.1 x.gas.2.1 x.gas.2.2] ++ #[.slice x.value.1 x.value.2.1 x.value.2.2] ++ #[.slice x.outOff.1 x.outOff.2.1 x.outOff.2.2] ++ #[.slice x.outLen.1 x.outLen.2.1 x.outLen.2.2] ++ #[.slice x.stack.1 x.stack.2.1 x.stack.2.2] ++ #[.slice x.mem.1 x.mem.2.1 x.mem.2.2] ++ #[.slice x.code.1 x.code.2.1 x.code.2.2] ++ #[.slice x.inputY.1 x.inputY.2.1 x.inputY.2.2] ++ ic .u8 x.self ++ ic .u8 x.caller ++ (encWs x.saved).toArray := by
    simp [encYF, ic, sv]
  rw [e]
  exact h14
theorem FC.out {r r' : Array Value} {o : Nat} {x : YFr} (h : FC r o x) (hs : r'.size = r.size) (he : ∀ j, o ≤ j → j < o + 60 → r'[j]? = r[j]?) : FC r' o x := by
  have hc : ∀ {k : Nat} {v : Value}, k < 60 → Ce r (o + k) v → Ce r' (o + k) v := fun {k v} hk h => ⟨by rw [he (o + k) (by omega) (by omega)]; exact h.h⟩
  have hx : ∀ {k m : Nat} {e : Array Value}, k + m ≤ 60 → Xt r (o + k) (o + k + m) e → Xt r' (o + k) (o + k + m) e := fun {k m e} hk h => ⟨by
    rw [← h.h]
    refine Array.ext_getElem? fun i => ?_
    rw [Array.getElem?_extract, Array.getElem?_extract, hs]
    split
    · exact he _ (by omega) (by omega)
    · rfl⟩
  exact ⟨by rw [hs]; exact h.size, hc (by decide) h.kind, hc (by decide) h.nat, hc (by decide) h.statY, hc (by decide) h.pc, hc (by decide) h.gas, hc (by decide) h.value, hc (by decide) h.outOff, hc (by decide) h.outLen, hc (by decide) h.stack, hc (by decide) h.mem, hc (by decide) h.code, hc (by decide) h.inputY, hx (by decide) h.self, hx (by decide) h.caller, hx (by decide) h.saved⟩
/-- one frame as it lies -/
structure FR1 [Om] (Y : Nat → Prop) (w : World) (x : YFr) (f : PF) : Prop where
  rel : FrR w x f
  mw : MW w x.mem f.mem
  ym : ∀ b, sblk x.mem b → Y b
structure FRS [Om] (Y : Nat → Prop) (w : World) (s : SV) (xs : List YFr) (fs : List PF) : Prop where
  lx : xs.length = s.2.1
  lf : fs.length = s.2.1
  cap : s.2.1 ≤ s.2.2
  c0 : s.2.1 = 0 → s.2.2 = 0
  blk : 0 < s.2.1 → ∃ F r, s.1 = some ⟨F, 0, none⟩ ∧ Om.p F ∧ Y F ∧ Hb w F (.cells r 121 (0, 0)) ∧ s.2.2 * 60 ≤ r.size ∧ ∀ (i : Nat) (x : YFr), xs[i]? = some x → FC r (i * 60) x
  rel : ∀ (i : Nat) (x : YFr) (f : PF), xs[i]? = some x → fs[i]? = some f → FR1 Y w x f
  dis : ∀ (i j : Nat) (x y : YFr) (b : Nat), i ≠ j → xs[i]? = some x → xs[j]? = some y → sblk x.mem b → ¬ sblk y.mem b
theorem MB.sb {w : World} {s : SV} {L : List Int} (h : MB w s L) (h0 : 0 < s.2.1) : ∃ b, sblk s b := by obtain ⟨b, r, fz, h1, _⟩ := h.row h0; exact ⟨b, 0, h1, h0⟩
section
variable [Om] {Y : Nat → Prop} {w w' : World} {s : SV} {xs : List YFr} {fs : List PF}
theorem FR1.keep {x : YFr} {f : PF} (h : FR1 Y w x f) (hk : KeepO Om.p w w') (h5 : KT 5 w w') : FR1 Y w' x f := ⟨h.rel.keep hk h5, h.mw.keep fun _ _ _ hb => h5 _ _ _ hb, h.ym⟩
theorem FR1.ext {x : YFr} {f : PF} (h : FR1 Y w x f) (he : Ext w w') : FR1 Y w' x f := ⟨h.rel.ext he, h.mw.ext he, h.ym⟩
theorem FR1.wr {x : YFr} {f : PF} {s0 : SV} (h : FR1 Y w x f) (hk : KeepO (sblk s0) w w') (hs : ∀ b, sblk s0 b → Om.p b) (hd : ∀ b, sblk s0 b → ¬ sblk x.mem b) : FR1 Y w' x f := by
  have hko : KeepO Om.p w w' := hk.om fun b _ hb => hs b hb
  have hr := h.rel
  refine ⟨{ hr with pc := hr.pc.keep hko, gas := hr.gas.keep hko, value := hr.value.keep hko, outOff := hr.outOff.keep hko, outLen := hr.outLen.keep hko, stack := hr.stack.keep hko, code := hr.code.keep hko, inputY := hr.inputY.keep hko, saved := hr.saved.keep hko, mem := { hr.mem with row := fun h0 => ?_ } }, ⟨h.mw.len, fun h0 => ?_⟩, h.ym⟩
  · obtain ⟨b, r, fz, h1, h2, h3⟩ := hr.mem.row h0
    exact ⟨b, r, fz, h1, h2.keepO hk fun e => hd b e ⟨0, h1, h0⟩, h3⟩
  · obtain ⟨b, h1, h2, h3⟩ := h.mw.row h0
    exact ⟨b, h1, h2, h3.keepO hk fun e => hd b e ⟨0, h1, h0⟩⟩
theorem FRS.ext (h : FRS Y w s xs fs) (he : Ext w w') : FRS Y w' s xs fs := ⟨h.lx, h.lf, h.cap, h.c0, fun h0 => by obtain ⟨F, r, h1, h2, h3, h4, h5⟩ := h.blk h0; exact ⟨F, r, h1, h2, h3, h4.ext he, h5⟩, fun i x f hx hf => (h.rel i x f hx hf).ext he, h.dis⟩
/-- a block of another kind is turned -/
theorem FRS.cs {C : Nat} {c : Array Value} (h : FRS Y w s xs fs) (hC : Hb w C (.cells c 101 (0, 0))) (ho : Om.p C) (hk : KeepO (fun b => b = C) w w') : FRS Y w' s xs fs :=
  ⟨h.lx, h.lf, h.cap, h.c0, fun h0 => by obtain ⟨F, r, h1, h2, h3, h4, h5⟩ := h.blk h0; exact ⟨F, r, h1, h2, h3, KT.kf hC hk (by decide) _ _ _ h4, h5⟩, fun i x f hx hf => (h.rel i x f hx hf).keep (hk.om fun b _ e => e ▸ ho) (KT.kf hC hk (by decide)), h.dis⟩
theorem FRS.frm {i : Nat} {x : YFr} {f : PF} {F : Nat} {o : Nat} (h : FRS Y w s xs fs) (hs : s.1 = some ⟨F, o, none⟩) (hx : xs[i]? = some x) (hf : fs[i]? = some f) : ∃ r, FrM w F (i * 60) r x f ∧ s.2.2 * 60 ≤ r.size := by
  have h0 : 0 < s.2.1 := by have := lt_of_getElem? hx; rw [h.lx] at this; omega
  obtain ⟨F', r, h1, h2, h3, h4, h5, h6⟩ := h.blk h0
  rw [hs] at h1
  injection h1 with h1
  injection h1 with h1 _
  subst h1
  exact ⟨r, ⟨h4, h6 i x hx, (h.rel i x f hx hf).rel, h2⟩, h5⟩
theorem FRS.at_ {i : Nat} (h : FRS Y w s xs fs) (hi : i < s.2.1) : ∃ F r x f, s.1 = some ⟨F, 0, none⟩ ∧ Y F ∧ xs[i]? = some x ∧ fs[i]? = some f ∧ FrM w F (i * 60) r x f ∧ s.2.2 * 60 ≤ r.size ∧ FR1 Y w x f := by
  obtain ⟨F, r, h1, h2, h3, h4, h5, h6⟩ := h.blk (by omega)
  obtain ⟨x, hx⟩ : ∃ x, xs[i]? = some x := ⟨_, List.getElem?_eq_getElem (by rw [h.lx]; exact hi)⟩
  obtain ⟨f, hf⟩ : ∃ f, fs[i]? = some f := ⟨_, List.getElem?_eq_getElem (by rw [h.lf]; exact hi)⟩
  exact ⟨F, r, x, f, h1, h3, hx, hf, ⟨h4, h6 i x hx, (h.rel i x f hx hf).rel, h2⟩, h5, h.rel i x f hx hf⟩
theorem FRS.fstep {i F : Nat} {r r' : Array Value} {x x' : YFr} {f f' : PF} {o : Nat} (h : FRS Y w s xs fs) (hs : s.1 = some ⟨F, o, none⟩) (hx : xs[i]? = some x) (hf : fs[i]? = some f) (hM : FrM w F (i * 60) r x f) (hS : FStep w w' F (i * 60) r f' r' x') (hmw : MW w' x'.mem f'.mem) (hym : ∀ b, sblk x'.mem b → sblk x.mem b ∨ (Y b ∧ w.heap.size ≤ b)) : FRS Y w' s (xs.set i x') (fs.set i f') := by
  have hil := lt_of_getElem? hx
  have hfl := lt_of_getElem? hf
  have hko := hS.ko hM.om
  have h5 : KT 5 w w' := KT.kf hM.blk hS.keep (by decide)
  have hsz := hS.ft.size
  have hlt : ∀ (j : Nat) (y : YFr) (b : Nat), xs[j]? = some y → sblk y.mem b → b < w.heap.size := by
    intro j y b hy hb
    obtain ⟨g, hg⟩ : ∃ g, fs[j]? = some g := ⟨_, List.getElem?_eq_getElem (by rw [h.lf, ← h.lx]; exact lt_of_getElem? hy)⟩
    obtain ⟨o, hb1, hb2⟩ := hb
    obtain ⟨b', h1, _, h3⟩ := (h.rel j y g hy hg).mw.row hb2
    rw [hb1] at h1
    injection h1 with h1
    injection h1 with h1 _
    rw [h1]; exact h3.lt
  have key : ∀ (j : Nat) (y : YFr) (b : Nat), j ≠ i → xs[j]? = some y → sblk x'.mem b → ¬ sblk y.mem b := fun j y b hj hy hb hb2 => by
    rcases hym b hb with h9 | ⟨_, h9⟩
    · exact h.dis i j x y b (al_ns hj) hx hy h9 hb2
    · have := hlt j y b hy hb2; omega
  refine ⟨by rw [List.length_set]; exact h.lx, by rw [List.length_set]; exact h.lf, h.cap, h.c0, fun h0 => ?_, fun j y g hy hg => ?_, fun j k y z b hjk hy hz hb => ?_⟩
  · obtain ⟨F', r0, h1, h2, h3, h4, h6, h7⟩ := h.blk h0
    rw [hs] at h1
    injection h1 with h1
    injection h1 with h1 ho
    subst h1; subst ho
    have hr : r0 = r := by have h9 := h4.h.symm.trans hM.blk.h; injection h9 with h9; injection h9
    subst hr
    refine ⟨F, r', hs, h2, h3, hS.blk, by rw [hsz]; exact h6, fun j y hy => ?_⟩
    by_cases hj : j = i
    · subst hj
      rw [List.getElem?_set_self hil] at hy
      rw [← Option.some.inj hy]
      exact hS.ft.fc
    · rw [List.getElem?_set_ne (al_ns hj)] at hy
      refine (h7 j y hy).out hsz fun k hk1 hk2 => hS.ft.out k ?_
      rcases Nat.lt_or_gt_of_ne hj with h9 | h9
      · left; have : (j + 1) * 60 ≤ i * 60 := Nat.mul_le_mul_right 60 h9; omega
      · right; have : (i + 1) * 60 ≤ j * 60 := Nat.mul_le_mul_right 60 h9; omega
  · by_cases hj : j = i
    · subst hj
      rw [List.getElem?_set_self hil] at hy
      rw [List.getElem?_set_self hfl] at hg
      rw [← Option.some.inj hy, ← Option.some.inj hg]
      refine ⟨hS.rel, hmw, fun b hb => ?_⟩
      rcases hym b hb with h9 | h9
      · exact (h.rel j x f hx hf).ym b h9
      · exact h9.1
    · rw [List.getElem?_set_ne (al_ns hj)] at hy hg
      exact (h.rel j y g hy hg).keep hko h5
  · by_cases hj : j = i
    · subst hj
      rw [List.getElem?_set_self hil] at hy
      rw [List.getElem?_set_ne hjk] at hz
      rw [← Option.some.inj hy] at hb
      exact key k z b (al_ns hjk) hz hb
    · rw [List.getElem?_set_ne (al_ns hj)] at hy
      by_cases hk : k = i
      · subst hk
        rw [List.getElem?_set_self hil] at hz
        rw [← Option.some.inj hz]
        exact fun hb2 => key j y b hj hy hb2 hb
      · rw [List.getElem?_set_ne (al_ns hk)] at hz
        exact h.dis j k y z b hjk hy hz hb
theorem FRS.wstep {i F : Nat} {r : Array Value} {x : YFr} {f f' : PF} {o : Nat} (h : FRS Y w s xs fs) (hs : s.1 = some ⟨F, o, none⟩) (hx : xs[i]? = some x) (hf : fs[i]? = some f) (hM : FrM w F (i * 60) r x f) (hS : WStep w w' F (i * 60) r x f') : FRS Y w' s xs (fs.set i f') := by
  have hfl := lt_of_getElem? hf
  have h1x := h.rel i x f hx hf
  have hso : ∀ b, sblk x.mem b → Om.p b := fun b ⟨o, hb1, hb2⟩ => by
    obtain ⟨b', h1, h2, h3⟩ := h1x.mw.row hb2
    rw [hb1] at h1
    injection h1 with h1
    injection h1 with h1 _
    rw [h1]; exact h2
  refine ⟨h.lx, by rw [List.length_set]; exact h.lf, h.cap, h.c0, fun h0 => ?_, fun j y g hy hg => ?_, h.dis⟩
  · obtain ⟨F', r0, h1, h2, h3, h4, h6, h7⟩ := h.blk h0
    have hr : r0 = r ∧ F' = F := by
      rw [hs] at h1
      injection h1 with h1
      injection h1 with h1 ho
      subst h1
      have h9 := h4.h.symm.trans hM.blk.h; injection h9 with h9; injection h9 with h9; exact ⟨h9, rfl⟩
    obtain ⟨rfl, rfl⟩ := hr
    exact ⟨F', r0, h1, h2, h3, hS.m.blk, h6, h7⟩
  · by_cases hj : j = i
    · subst hj
      rw [List.getElem?_set_self hfl] at hg
      rw [← Option.some.inj hg]
      rw [hx] at hy
      rw [← Option.some.inj hy]
      exact ⟨hS.m.rel, hS.mw, h1x.ym⟩
    · rw [List.getElem?_set_ne (al_ns hj)] at hg
      exact (h.rel j y g hy hg).wr hS.keep hso fun b hb => h.dis i j x y b (al_ns hj) hx hy hb
theorem FRS.cut {p : Option Addr} {n c k : Nat} (h : FRS Y w (p, n, c) xs fs) (hk : k ≤ n) : FRS Y w (p, k, k) (xs.take k) (fs.take k) := by
  have h1 := h.lx
  have h2 := h.lf
  have h3 := h.cap
  dsimp only at h1 h2 h3
  have tk : ∀ {α : Type} {l : List α} {i : Nat} {y : α}, (l.take k)[i]? = some y → l[i]? = some y := fun {α l i y} hy => by
    rw [List.getElem?_take] at hy
    split at hy
    · exact hy
    · cases hy
  refine ⟨by rw [List.length_take]; dsimp only; omega, by rw [List.length_take]; dsimp only; omega, Nat.le_refl _, fun h0 => h0, fun h0 => ?_, fun i x f hx hf => h.rel i x f (tk hx) (tk hf), fun i j x y b hij hx hy hb => h.dis i j x y b hij (tk hx) (tk hy) hb⟩
  dsimp only at h0
  obtain ⟨F, r, h4, h5, h6, h7, h8, h9⟩ := h.blk (by dsimp only; omega)
  dsimp only at h8
  exact ⟨F, r, h4, h5, h6, h7, by dsimp only; omega, fun i x hx => h9 i x (tk hx)⟩
end
theorem FR1.om {O O' : Om} {Y Y' : Nat → Prop} {w : World} {x : YFr} {f : PF} (h : @FR1 O Y w x f) (ho : OmLe w O O') (hu : ∀ b, (@Om.p O) b → (@Om.p O') b) (hy : ∀ b, Y b → Y' b) : @FR1 O' Y' w x f := by obtain ⟨h1, h2, h3⟩ := h; exact ⟨FrR.om h1 ho, MW.om h2 hu, fun b hb => hy b (h3 b hb)⟩
theorem FRS.om {O O' : Om} {Y Y' : Nat → Prop} {w : World} {s : SV} {xs : List YFr} {fs : List PF} (h : @FRS O Y w s xs fs) (ho : OmLe w O O') (hu : ∀ b, (@Om.p O) b → (@Om.p O') b) (hy : ∀ b, Y b → Y' b) : @FRS O' Y' w s xs fs :=
  by obtain ⟨k1, k2, k3, k0, k4, k5, k6⟩ := h; exact ⟨k1, k2, k3, k0, fun h0 => by obtain ⟨F, r, h1, h2, h3, h4⟩ := k4 h0; exact ⟨F, r, h1, hu _ h2, hy _ h3, h4⟩, fun i x f hx hf => FR1.om (k5 i x f hx hf) ho hu hy, k6⟩
theorem FRS.nil [Om] (Y : Nat → Prop) (w : World) (s : SV) (h : s.2.1 = 0) (h2 : s.2.2 = 0) : FRS Y w s [] [] := ⟨h.symm, h.symm, by omega, fun _ => h2, fun h0 => absurd h0 (by omega), fun i x f hx => by simp at hx, fun i j x y b _ hx => by simp at hx⟩
/-- the specification's whole state -/
structure YX [Om] (Y : Nat → Prop) (w : World) (C : Nat) (x : YSt) (y : PSt) (xs : List YFr) (fs : List PF) : Prop where
  omb : OmB w
  sub : ∀ b, Y b → Om.p b
  yc : Y C
  ss : YSS w C x y
  frs : FRS Y w x.frames xs fs
  yl : ∀ b, sblk x.now.logs b → Om.p b → Y b
/-- how the blocks that turn become more -/
structure YG (w : World) (O : Om) (Y : Nat → Prop) (O' : Om) (Y' : Nat → Prop) : Prop where
  le : OmLe w O O'
  up : ∀ b, (@Om.p O) b → (@Om.p O') b
  yup : ∀ b, Y b → Y' b
  ydn : ∀ b, b < w.heap.size → Y' b → Y b
  newY : ∀ b, (@Om.p O') b → (@Om.p O) b ∨ Y' b
theorem YG.refl (w : World) (O : Om) (Y : Nat → Prop) : YG w O Y O Y := ⟨OmLe.refl w O, fun _ h => h, fun _ h => h, fun _ _ h => h, fun _ h => Or.inl h⟩
theorem YG.trans {w w1 : World} {O O1 O2 : Om} {Y Y1 Y2 : Nat → Prop} (h : YG w O Y O1 Y1) (h2 : YG w1 O1 Y1 O2 Y2) (hw : w.heap.size ≤ w1.heap.size) : YG w O Y O2 Y2 :=
  ⟨h.le.trans h2.le hw, fun b hb => h2.up b (h.up b hb), fun b hb => h2.yup b (h.yup b hb), fun b hb hp => h.ydn b hb (h2.ydn b (by omega) hp), fun b hb => by
    rcases h2.newY b hb with h9 | h9
    · rcases h.newY b h9 with h8 | h8
      · exact Or.inl h8
      · exact Or.inr (h2.yup b h8)
    · exact Or.inr h9⟩
theorem YG.add {w : World} (O : Om) (Y : Nat → Prop) {c : Nat} (h : w.heap.size ≤ c) : YG w O Y (O.add c) (fun b => Y b ∨ b = c) :=
  ⟨O.add_le h, fun _ hb => Or.inl hb, fun _ hb => Or.inl hb, fun b hb hp => by rcases hp with hp | hp; exact hp; omega, fun b hb => by rcases hb with hb | hb; exact Or.inl hb; exact Or.inr (Or.inr hb)⟩
/-- what a step of the specification leaves -/
def YRet [O : Om] (Y : Nat → Prop) (w w' : World) (C : Nat) (y' : PSt) (fs' : List PF) : Prop := ∃ (O' : Om) (Y' : Nat → Prop) (x' : YSt) (xs' : List YFr), YG w O Y O' Y' ∧ KeepO Y w w' ∧ @YX O' Y' w' C x' y' xs' fs'
theorem YX.ext [Om] {Y : Nat → Prop} {w w' : World} {C : Nat} {x : YSt} {y : PSt} {xs : List YFr} {fs : List PF} (h : YX Y w C x y xs fs) (he : Ext w w') : YX Y w' C x y xs fs := ⟨h.omb.ext he, h.sub, h.yc, h.ss.ext he, h.frs.ext he, h.yl⟩
theorem YX.ret [O : Om] {Y : Nat → Prop} {w w' : World} {C : Nat} {x : YSt} {y : PSt} {xs : List YFr} {fs : List PF} (h : YX Y w' C x y xs fs) (hk : KeepO Y w w') : YRet Y w w' C y fs := ⟨O, Y, x, xs, YG.refl w O Y, hk, h⟩
/-- the state's block is turned -/
theorem YX.sstep [Om] {Y : Nat → Prop} {w w' : World} {C : Nat} {x x' : YSt} {y y' : PSt} {xs : List YFr} {fs : List PF} (h : YX Y w C x y xs fs) (hs : SStep w w' C x' y') (hf : x'.frames = x.frames) (hl : x'.now.logs = x.now.logs) : YX Y w' C x' y' xs fs :=
  ⟨h.omb.keep hs.keep, h.sub, h.yc, hs.ss, by rw [hf]; exact h.frs.cs h.ss.blk h.ss.om hs.keep, by rw [hl]; exact h.yl⟩
/-- a frame is turned -/
theorem YSS.fk [Om] {w w' : World} {C F : Nat} {x : YSt} {y : PSt} {r : Array Value} (h : YSS w C x y) (hF : Hb w F (.cells r 121 (0, 0))) (ho : Om.p F) (hk : KeepO (fun b => b = F) w w') : YSS w' C x y :=
  ⟨KT.kf hF hk (by decide) _ _ _ h.blk, h.rel.keep (hk.om fun b _ e => e ▸ ho) (KT.kf hF hk (by decide)), h.om⟩
theorem YX.fstep [Om] {Y : Nat → Prop} {w w' : World} {C : Nat} {x : YSt} {y : PSt} {xs : List YFr} {fs : List PF} {i F o : Nat} {r r' : Array Value} {xf x' : YFr} {f f' : PF} (h : YX Y w C x y xs fs) (hs : x.frames.1 = some ⟨F, o, none⟩) (hx : xs[i]? = some xf) (hf : fs[i]? = some f) (hM : FrM w F (i * 60) r xf f) (hS : FStep w w' F (i * 60) r f' r' x') (hmw : MW w' x'.mem f'.mem) (hym : ∀ b, sblk x'.mem b → sblk xf.mem b ∨ (Y b ∧ w.heap.size ≤ b)) : YX Y w' C x y (xs.set i x') (fs.set i f') :=
  ⟨h.omb.keep hS.keep, h.sub, h.yc, h.ss.fk hM.blk hM.om hS.keep, h.frs.fstep hs hx hf hM hS hmw hym, h.yl⟩
theorem YX.wstep [Om] {Y : Nat → Prop} {w w' : World} {C : Nat} {x : YSt} {y : PSt} {xs : List YFr} {fs : List PF} {i F o : Nat} {r : Array Value} {xf : YFr} {f f' : PF} (h : YX Y w C x y xs fs) (hs : x.frames.1 = some ⟨F, o, none⟩) (hx : xs[i]? = some xf) (hf : fs[i]? = some f) (hM : FrM w F (i * 60) r xf f) (hS : WStep w w' F (i * 60) r xf f') : YX Y w' C x y xs (fs.set i f') := by
  have h1 := h.frs.rel i xf f hx hf
  have hso : ∀ b, sblk xf.mem b → Om.p b := fun b hb => h.sub b (h1.ym b hb)
  refine ⟨h.omb.keep hS.keep, h.sub, h.yc, ⟨h.ss.blk.keepO hS.keep fun hb => ?_, h.ss.rel.keep (hS.keep.om fun b _ hb => hso b hb) (h1.mw.kt277 hS.keep), h.ss.om⟩, h.frs.wstep hs hx hf hM hS, h.yl⟩
  obtain ⟨o2, hb1, hb2⟩ := hb
  obtain ⟨b', h3, _, h4⟩ := h1.mw.row hb2
  rw [hb1] at h3
  injection h3 with h3
  injection h3 with h3 _
  subst h3
  exact absurd (Hb.type_eq h.ss.blk h4) (by decide)

end Go.Proofs.YgvacwGreat
