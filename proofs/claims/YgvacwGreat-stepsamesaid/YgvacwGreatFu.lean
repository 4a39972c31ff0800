import Derived.Test.YgvacwGreatFt
import Derived.Test.YgvacwGreatIo
namespace Go.Proofs.YgvacwGreat
set_option linter.unusedSimpArgs false
set_option linter.unusedVariables false
/-! two chains in one heap -/
theorem LgsN.kb [Om] {w w' : World} {s : SV} {n : Nat} (h : LgsN w s n) (hl : ∀ x, LgR w x → LgR w' x) (hb : ∀ b r fz, sblk s b → Hb w b (.cells r 277 fz) → Hb w' b (.cells r 277 fz)) : LgsN w' s n := by
  obtain ⟨L, h1, h2, h3, h4, h5⟩ := h
  refine ⟨L, { h1 with row := fun h0 => ?_ }, h2, fun x hx => hl x (h3 x hx), h4, fun h0 => ?_⟩
  · obtain ⟨b, r, fz, k1, k2, k3⟩ := h1.row h0
    exact ⟨b, r, fz, k1, hb b r fz ⟨0, k1, h0⟩ k2, k3⟩
  · obtain ⟨b, r, fz, k1, k2, k3⟩ := h5 h0
    exact ⟨b, r, fz, k1, hb b r fz ⟨0, k1, h0⟩ k2, k3⟩
theorem FR1.oth [Om] {Y Q : Nat → Prop} {w w' : World} {x : YFr} {f : PF} (h : FR1 Y w x f) (hk : KeepO Q w w') (hq : ∀ b, b < w.heap.size → Q b → Om.p b ∧ ¬ Y b) : FR1 Y w' x f := by
  have hko : KeepO Om.p w w' := hk.om fun b hb hb2 => (hq b hb hb2).1
  have hr := h.rel
  refine ⟨{ hr with pc := hr.pc.keep hko, gas := hr.gas.keep hko, value := hr.value.keep hko, outOff := hr.outOff.keep hko, outLen := hr.outLen.keep hko, stack := hr.stack.keep hko, code := hr.code.keep hko, inputY := hr.inputY.keep hko, saved := hr.saved.keep hko, mem := { hr.mem with row := fun h0 => ?_ } }, ⟨h.mw.len, fun h0 => ?_⟩, h.ym⟩
  · obtain ⟨b, r, fz, h1, h2, h3⟩ := hr.mem.row h0
    exact ⟨b, r, fz, h1, h2.keepO hk fun e => (hq b h2.lt e).2 (h.ym b ⟨0, h1, h0⟩), h3⟩
  · obtain ⟨b, h1, h2, h3⟩ := h.mw.row h0
    exact ⟨b, h1, h2, h3.keepO hk fun e => (hq b h3.lt e).2 (h.ym b ⟨0, h1, h0⟩)⟩
theorem FRS.oth [Om] {Y Q : Nat → Prop} {w w' : World} {s : SV} {xs : List YFr} {fs : List PF} (h : FRS Y w s xs fs) (hk : KeepO Q w w') (hq : ∀ b, b < w.heap.size → Q b → Om.p b ∧ ¬ Y b) : FRS Y w' s xs fs :=
  ⟨h.lx, h.lf, h.cap, h.c0, fun h0 => by
    obtain ⟨F, r, h1, h2, h3, h4, h5⟩ := h.blk h0
    exact ⟨F, r, h1, h2, h3, h4.keepO hk fun e => (hq F h4.lt e).2 h3, h5⟩, fun i x f hx hf => (h.rel i x f hx hf).oth hk hq, h.dis⟩
theorem YSS.oth [Om] {Y Q : Nat → Prop} {w w' : World} {C : Nat} {x : YSt} {y : PSt} (h : YSS w C x y) (hC : Y C) (hyl : ∀ b, sblk x.now.logs b → Om.p b → Y b) (hk : KeepO Q w w') (hq : ∀ b, b < w.heap.size → Q b → Om.p b ∧ ¬ Y b) : YSS w' C x y := by
  have hko : KeepO Om.p w w' := hk.om fun b hb hb2 => (hq b hb hb2).1
  refine ⟨h.blk.keepO hk fun e => (hq _ h.blk.lt e).2 hC, ?_, h.om⟩
  have hr := h.rel
  have hn := hr.now
  have hlg : LgsN w' x.now.logs y.now.nlogs := hn.logs.kb (fun _ h => h.keep hko) fun b r fz hs hb => hb.keepO hk fun e => (hq b hb.lt e).2 (hyl b hs (hq b hb.lt e).1)
  exact { hr with now := ⟨hn.accts.keep hko, hn.warmA.keep hko, hn.warmS.keep hko, hn.ref.keep hko, hlg, hn.temps.keep hko, hn.made.keep hko, hn.gone.keep hko⟩, start := hr.start.keep hko, ret := hr.ret.keep hko, limit := hr.limit.keep hko, txGas := hr.txGas.keep hko, left := hr.left.keep hko, price := hr.price.keep hko, hs := hr.hs.keep hko }
theorem LgsN.lt [Om] {w : World} {s : SV} {n b : Nat} (h : LgsN w s n) (hs : sblk s b) : ∃ r fz, Hb w b (.cells r 277 fz) := by
  obtain ⟨L, h1, h2, h3, h4, h5⟩ := h
  obtain ⟨o, hs1, hs2⟩ := hs
  obtain ⟨b', r, fz, k1, k2, k3⟩ := h5 hs2
  rw [hs1] at k1
  injection k1 with k1
  injection k1 with k1 _
  subst k1
  exact ⟨r, fz, k2⟩
theorem FRS.omu {O O' : Om} {Y : Nat → Prop} {w : World} {s : SV} {xs : List YFr} {fs : List PF} (h : @FRS O Y w s xs fs) (hle : OmLe w O O') (hu : ∀ b, (@Om.p O) b → (@Om.p O') b) : @FRS O' Y w s xs fs := by
  obtain ⟨f1, f2, f3, f4, f5, f6, f7⟩ := h
  refine @FRS.mk O' Y w s xs fs f1 f2 f3 f4 (fun h0 => ?_) (fun i x f hx hf => ?_) f7
  · obtain ⟨F, r, k1, k2, k3⟩ := f5 h0
    exact ⟨F, r, k1, hu F k2, k3⟩
  · obtain ⟨r1, r2, r3⟩ := f6 i x f hx hf
    refine @FR1.mk O' Y w x f (FrR.om r1 hle) (@MW.mk O' w x.mem f.mem (@MW.len O _ _ _ r2) fun h0 => ?_) r3
    obtain ⟨b, k1, k2, k3⟩ := @MW.row O _ _ _ r2 h0
    exact ⟨b, k1, hu b k2, k3⟩
/-- blocks of the other chain are turned, and it has more of them -/
theorem YX.eng {O O' : Om} {Y Q : Nat → Prop} {w w' : World} {C : Nat} {x : YSt} {y : PSt} {xs : List YFr} {fs : List PF} (h : @YX O Y w C x y xs fs) (hle : OmLe w O O') (hu : ∀ b, (@Om.p O) b → (@Om.p O') b) (hb : ∀ b, (@Om.p O') b → b < w'.heap.size) (hk : KeepO Q w w') (hq : ∀ b, b < w.heap.size → Q b → (@Om.p O) b ∧ ¬ Y b) : @YX O' Y w' C x y xs fs := by
  obtain ⟨h1, h2, h3, h4, h5, h6⟩ := h
  have hq' : ∀ b, b < w.heap.size → Q b → (@Om.p O') b ∧ ¬ Y b := fun b hb hb2 => ⟨hu b (hq b hb hb2).1, (hq b hb hb2).2⟩
  have hyl : ∀ b, sblk x.now.logs b → (@Om.p O') b → Y b := fun b hs hp => by
    obtain ⟨r, fz, hlt⟩ := @LgsN.lt O _ _ _ _ (@PWN.logs O _ _ _ (@StRel.now O _ _ _ (@YSS.rel O _ _ _ _ h4))) hs
    exact h6 b hs (hle.dn b hlt.lt hp)
  exact @YX.mk O' Y w' C x y xs fs hb (fun b hy => hu b (h2 b hy)) h3 (@YSS.oth O' Y Q w w' C x y (YSS.om' h4 hle hu (hu C (h2 C h3))) h3 hyl hk hq') (@FRS.oth O' Y Q w w' x.frames xs fs (FRS.omu h5 hle hu) hk hq') hyl
/-- only the blocks that the chain has now -/
theorem YX.shrink [Om] {Y : Nat → Prop} {w : World} {C : Nat} {x : YSt} {y : PSt} {xs : List YFr} {fs : List PF} (h : YX Y w C x y xs fs) : ∃ Y2 : Nat → Prop, YX Y2 w C x y xs fs ∧ (∀ b, Y2 b → Y b) ∧ ∀ b, Y2 b → ∀ r fz, ¬ Hb w b (.cells r 28 fz) := by
  have hfr : ∀ f ∈ xs, ∀ b, sblk f.mem b → Y b ∧ ∃ r, Hb w b (.cells r 5 (0, 0)) := by
    intro f hf b hb
    obtain ⟨i, hi, e⟩ := List.getElem_of_mem hf
    have hx : xs[i]? = some f := by rw [List.getElem?_eq_getElem hi, e]
    obtain ⟨g, hg⟩ : ∃ g, fs[i]? = some g := ⟨_, List.getElem?_eq_getElem (by rw [h.frs.lf, ← h.frs.lx]; exact hi)⟩
    have h1 := h.frs.rel i f g hx hg
    refine ⟨h1.ym b hb, ?_⟩
    obtain ⟨o, hb1, hb2⟩ := hb
    obtain ⟨b', k1, _, k3⟩ := h1.mw.row hb2
    rw [hb1] at k1
    injection k1 with k1
    injection k1 with k1 _
    subst k1
    exact ⟨_, k3⟩
  have hF : ∀ b, sblk x.frames b → Y b ∧ ∃ r, Hb w b (.cells r 121 (0, 0)) := by
    rintro b ⟨o, hb1, hb2⟩
    obtain ⟨F, r, k1, k2, k3, k4, _⟩ := h.frs.blk hb2
    rw [hb1] at k1
    injection k1 with k1
    injection k1 with k1 _
    subst k1
    exact ⟨k3, r, k4⟩
  refine ⟨fun b => b = C ∨ sblk x.frames b ∨ (∃ f ∈ xs, sblk f.mem b) ∨ (sblk x.now.logs b ∧ Om.p b), ⟨h.omb, ?_, Or.inl rfl, h.ss, ⟨h.frs.lx, h.frs.lf, h.frs.cap, h.frs.c0, fun h0 => ?_, fun i f g hf hg => ?_, h.frs.dis⟩, fun b h1 h2 => Or.inr (Or.inr (Or.inr ⟨h1, h2⟩))⟩, ?_, ?_⟩
  · rintro b (h1 | h1 | ⟨f, h1, h2⟩ | ⟨h1, h2⟩)
    · rw [h1]; exact h.ss.om
    · exact h.sub b (hF b h1).1
    · exact h.sub b (hfr f h1 b h2).1
    · exact h2
  · obtain ⟨F, r, k1, k2, k3, k4⟩ := h.frs.blk h0
    exact ⟨F, r, k1, k2, Or.inr (Or.inl ⟨0, k1, h0⟩), k4⟩
  · have h1 := h.frs.rel i f g hf hg
    exact ⟨h1.rel, h1.mw, fun b hb => Or.inr (Or.inr (Or.inl ⟨f, List.mem_of_getElem? hf, hb⟩))⟩
  · rintro b (h1 | h1 | ⟨f, h1, h2⟩ | ⟨h1, h2⟩)
    · rw [h1]; exact h.yc
    · exact (hF b h1).1
    · exact (hfr f h1 b h2).1
    · exact h.yl b h1 h2
  · rintro b (h1 | h1 | ⟨f, h1, h2⟩ | ⟨h1, h2⟩) r fz hb
    · subst h1; exact absurd (hb.type_eq h.ss.blk) (by decide)
    · obtain ⟨_, r', k⟩ := hF b h1; exact absurd (hb.type_eq k) (by decide)
    · obtain ⟨_, r', k⟩ := hfr f h1 b h2; exact absurd (hb.type_eq k) (by decide)
    · obtain ⟨r', fz', k⟩ := h.ss.rel.now.logs.lt h1; exact absurd (hb.type_eq k) (by decide)
/-! the engine beside what turns -/
section
variable [Om] {w w' : World} {C : Nat} {c : Array Value} {v : V} {B : VB} {m : Mc}
theorem Agr.oth (h : MS w C c v B m) (hk : KeepO Om.p w w') : Agr (rdB w) (rdB w') v m := by
  have hb : ∀ {s : SV}, BS w (bb m) s → rdB w' s = rdB w s := fun {s} hs => (hs.rd.keep fun b r fz hn hb => hb.keepO hk fun e => hn (Or.inr e)).rd
  exact ⟨fun x hx => hb (h.vs.codes x hx), fun e he => hb (h.vs.olds e he), by rw [rdB_nil, rdB_nil], fun f hf => hb (h.code f hf).2, hb h.ret⟩
theorem Rel.oth {p : PSt × List PF} (hR : Rel w v m p) (h : MS w C c v B m) (hk : KeepO Om.p w w') (hd : ∀ b, MOwn C B m b → ¬ Om.p b) (h28 : ∀ b r fz, Hb w b (.cells r 28 fz) → ¬ Om.p b) : Rel w' v m p := by
  obtain ⟨L, hL, hP⟩ := hR.ex
  refine ⟨L, ?_, ?_⟩
  · rcases hL with ⟨h1, h2⟩ | ⟨b, h1, h2, h3⟩
    · exact Or.inl ⟨h1, h2⟩
    · exact Or.inr ⟨b, h1, h2.keepO hk (hd b (Or.inr (by unfold bb; rw [h1]))), h3⟩
  · rw [h.hash.rdk fun b r fz hb => hb.keepO hk (h28 b r fz hb)]
    exact hP.rd (Agr.oth h hk)
theorem RelN.oth {y : PSt} (hR : RelN w v m y) (h : MS w C c v B m) (hk : KeepO Om.p w w') (h28 : ∀ b r fz, Hb w b (.cells r 28 fz) → ¬ Om.p b) : RelN w' v m y := by
  have ha := Agr.oth h hk
  exact { hR with vr := hR.vr.rd ha.codes ha.nil_, hs := by rw [h.hash.rdk fun b r fz hb => hb.keepO hk (h28 b r fz hb)]; exact hR.hs }
end
theorem BS.yp {O O' : Om} {w w' : World} {β : Option Nat} {s : SV} (h : @BS O w β s) (hle : OmLe w O O') (hk : KeepO (@Om.p O) w w') : @BS O' w' β s := by
  rcases h with h | ⟨b, r, fz, h1, h2, h3, h4⟩
  · exact Or.inl h
  · refine Or.inr ⟨b, r, fz, h1, fun e => h2 ?_, h3.keepO hk fun e => h2 (Or.inr e), h4⟩
    rcases e with e | e
    · exact Or.inl e
    · exact Or.inr (hle.dn b h3.lt e)
theorem BX.yp {O O' : Om} {w w' : World} {β : Option Nat} {s : SV} {L : List Int} (h : @BX O w β s L) (hle : OmLe w O O') (hk : KeepO (@Om.p O) w w') : @BX O' w' β s L := by
  rcases h with h | ⟨b, r, fz, h1, h2, h3, h4⟩
  · exact Or.inl h
  · refine Or.inr ⟨b, r, fz, h1, fun e => h2 ?_, h3.keepO hk fun e => h2 (Or.inr e), h4⟩
    rcases e with e | e
    · exact Or.inl e
    · exact Or.inr (hle.dn b h3.lt e)
/-- the other chain goes a step -/
theorem MS.yp {O O' : Om} {w w' : World} {C : Nat} {c : Array Value} {v : V} {B : VB} {m : Mc} (h : @MS O w C c v B m) (hle : OmLe w O O') (hk : KeepO (@Om.p O) w w') (hb : ∀ b, (@Om.p O') b → b < w'.heap.size) (hd : ∀ b, MOwn C B m b → ¬ (@Om.p O) b) (h28 : ∀ b r fz, Hb w b (.cells r 28 fz) → ¬ (@Om.p O) b) : @MS O' w' C c v B m := by
  obtain ⟨⟨h1, h2, hr, h4, h5, h6⟩, g1, g2, g3, g4, g5, g6, g7⟩ := h
  have hro : ∀ (b : Nat) (o : Obj), VOwn C B b → Hb w b o → Hb w' b o := fun b o ho hb => hb.keepO hk (hd b (Or.inl ho))
  refine @MS.mk O' w' C c v B m (@VS.mk O' w' C c v B (bb m) (hro _ _ (Or.inl rfl) h1) h2 ⟨hr.accts.keep fun b cap o e hb => hro b o (Or.inr (Or.inl ⟨cap, e⟩)) hb, hr.slots.keep fun b cap o e hb => hro b o (Or.inr (Or.inr (Or.inl ⟨cap, e⟩))) hb, hr.journal.keep fun b cap o e hb => hro b o (Or.inr (Or.inr (Or.inr (Or.inl ⟨cap, e⟩)))) hb, hr.logs.keep fun b cap o e hb => hro b o (Or.inr (Or.inr (Or.inr (Or.inr (Or.inl ⟨cap, e⟩))))) hb, hr.temps.keep fun b cap o e hb => hro b o (Or.inr (Or.inr (Or.inr (Or.inr (Or.inr (Or.inl ⟨cap, e⟩)))))) hb, hr.ttab.keep fun b cap o e hb => hro b o (Or.inr (Or.inr (Or.inr (Or.inr (Or.inr (Or.inr ⟨cap, e⟩)))))) hb⟩ h4 (fun x hx => (h5 x hx).yp hle hk) (fun x hx => (h6 x hx).yp hle hk)) g1 g2 ?_ (fun f hf => ⟨(g4 f hf).1.yp hle hk, (g4 f hf).2.yp hle hk⟩) (g5.yp hle hk) (g6.keep fun b r fz hb => hb.keepO hk (h28 b r fz hb)) hb
  rcases g3 with k1 | ⟨b, L, k1, k2, k3⟩
  · exact Or.inl k1
  · exact Or.inr ⟨b, L, k1, k2.keepO hk (hd b (Or.inr (by unfold bb; rw [k1]))), k3⟩
theorem MOwn.lt [Om] {w : World} {C : Nat} {c : Array Value} {v : V} {B : VB} {m : Mc} (h : MS w C c v B m) {b : Nat} (hb : MOwn C B m b) : b < w.heap.size := by
  rcases hb with hb | hb
  · obtain ⟨r, T, h1, _⟩ := h.vs.own_ty hb; exact h1.lt
  · rcases h.buf with k1 | ⟨b', L, k1, k2, k3⟩
    · unfold bb at hb; rw [k1] at hb; cases hb
    · unfold bb at hb; rw [k1] at hb
      simp at hb; subst hb; exact k2.lt
/-! both -/
structure Two (O : Om) (Y : Nat → Prop) (w : World) (C : Nat) (c : Array Value) (v : V) (B : VB) (m : Mc) (D : Nat) (x : YSt) (y : PSt) (xs : List YFr) (fs : List PF) : Prop where
  ms : @MS ⟨Y⟩ w C c v B m
  yx : @YX O Y w D x y xs fs
  ow : ∀ b, MOwn C B m b → (@Om.p O) b ∧ ¬ Y b
  n28 : ∀ b, Y b → ∀ r fz, ¬ Hb w b (.cells r 28 fz)
section
variable {O : Om} {Y : Nat → Prop} {w w' : World} {C : Nat} {c : Array Value} {v : V} {B : VB} {m : Mc} {D : Nat} {x : YSt} {y : PSt} {xs : List YFr} {fs : List PF}
theorem Two.ylt (h : Two O Y w C c v B m D x y xs fs) : ∀ b, Y b → b < w.heap.size := @MS.om ⟨Y⟩ _ _ _ _ _ _ h.ms
theorem Two.h28 (h : Two O Y w C c v B m D x y xs fs) : ∀ b r fz, Hb w b (.cells r 28 fz) → ¬ Y b := fun b r fz hb hy => h.n28 b hy r fz hb
theorem Two.ext (h : Two O Y w C c v B m D x y xs fs) (he : Ext w w') : Two O Y w' C c v B m D x y xs fs :=
  ⟨@MS.ext ⟨Y⟩ _ _ _ _ _ _ _ h.ms he, @YX.ext O _ _ _ _ _ _ _ _ h.yx he, h.ow, fun b hy r fz hb => h.n28 b hy r fz ⟨by rw [← he.2 b (h.ylt b hy)]; exact hb.h⟩⟩
theorem Two.eng (h : Two O Y w C c v B m D x y xs fs) {v' : V} {m' : Mc} (hr : @MRet ⟨Y⟩ w C B m w' v' m') : ∃ (O' : Om) (c' : Array Value) (B' : VB), MStep w w' C B m B' m' ∧ Two O' Y w' C c' v' B' m' D x y xs fs := by
  obtain ⟨c', B', h1, h2⟩ := hr
  have hq : ∀ b, b < w.heap.size → MOwn C B m b → (@Om.p O) b ∧ ¬ Y b := fun b _ hb => h.ow b hb
  refine ⟨⟨fun b => (@Om.p O) b ∨ MOwn C B' m' b⟩, c', B', h2, h1, YX.eng h.yx ⟨fun b hb hp => ?_⟩ (fun b hp => Or.inl hp) (fun b hp => ?_) h2.keep hq, fun b hb => ⟨Or.inr hb, fun hy => ?_⟩, fun b hy r fz hb => ?_⟩
  · rcases hp with hp | hp
    · exact hp
    · rcases h2.own b hp with h9 | h9
      · exact (h.ow b h9).1
      · omega
  · rcases hp with hp | hp
    · exact Nat.lt_of_lt_of_le (@YX.omb O _ _ _ _ _ _ _ h.yx b hp) h2.keep.sz
    · exact @MOwn.lt ⟨Y⟩ _ _ _ _ _ _ h1 _ hp
  · rcases h2.own b hb with h9 | h9
    · exact (h.ow b h9).2 hy
    · have := h.ylt b hy; omega
  · refine h.n28 b hy r fz ⟨?_⟩
    rw [← h2.keep.old b (h.ylt b hy) fun e => (h.ow b e).2 hy]
    exact hb.h
theorem Two.ret (h : Two O Y w C c v B m D x y xs fs) {y' : PSt} {fs' : List PF} (hr : @YRet O Y w w' D y' fs') : ∃ (O' : Om) (Y' : Nat → Prop) (x' : YSt) (xs' : List YFr), KeepO Y w w' ∧ (∀ b, Y' b → Y b ∨ w.heap.size ≤ b) ∧ Two O' Y' w' C c v B m D x' y' xs' fs' := by
  obtain ⟨O1, Y1, x1, xs1, hG, hk, hX⟩ := hr
  obtain ⟨Y2, hX2, hs, h28⟩ := @YX.shrink O1 _ _ _ _ _ _ _ hX
  have hlt : ∀ b, MOwn C B m b → b < w.heap.size := fun b hb => @MOwn.lt ⟨Y⟩ _ _ _ _ _ _ h.ms _ hb
  refine ⟨O1, Y2, x1, xs1, hk, fun b hb => (by rcases Nat.lt_or_ge b w.heap.size with h9 | h9; exact Or.inl (hG.ydn b h9 (hs b hb)); exact Or.inr h9), MS.yp (O := ⟨Y⟩) (O' := ⟨Y2⟩) h.ms ⟨fun b hb hp => hG.ydn b hb (hs b hp)⟩ hk (fun b hp => ?_) (fun b hb => (h.ow b hb).2) h.h28, hX2, fun b hb => ⟨hG.up b (h.ow b hb).1, fun hy => (h.ow b hb).2 (hG.ydn b (hlt b hb) (hs b hy))⟩, h28⟩
  exact @YX.omb O1 _ _ _ _ _ _ _ hX b (@YX.sub O1 _ _ _ _ _ _ _ hX b (hs b hp))
theorem Two.rel {p : PSt × List PF} (h : Two O Y w C c v B m D x y xs fs) (hR : Rel w v m p) (hk : KeepO Y w w') : Rel w' v m p := @Rel.oth ⟨Y⟩ _ _ _ _ _ _ _ _ hR h.ms hk (fun b hb => (h.ow b hb).2) h.h28
theorem Two.relN {p : PSt} (h : Two O Y w C c v B m D x y xs fs) (hR : RelN w v m p) (hk : KeepO Y w w') : RelN w' v m p := @RelN.oth ⟨Y⟩ _ _ _ _ _ _ _ _ hR h.ms hk h.h28
end
end Go.Proofs.YgvacwGreat
