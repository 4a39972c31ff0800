import Derived.Test.YgvadwGreatMv
namespace Go.Proofs.YgvadwGreat
set_option linter.unusedSimpArgs false
set_option linter.unusedVariables false
/-! the machine's invariant -/
def gasOf (l : List Fm) (i : Nat) : Int := match l[i]? with | some f => f.gas | none => 0
def baseOf (l : List Int) (i : Nat) : Int := match l[i]? with | some x => x | none => 0
def szOf (l : List Int) (i : Nat) : Int := baseOf l (i + 1) - baseOf l i
def gasTo (l : List Fm) : Nat → Int
  | 0 => 0
  | n + 1 => gasTo l n + gasOf l n
def costTo (l : List Fm) (b : List Int) : Nat → Int
  | 0 => 0
  | n + 1 => costTo l b n + (gasOf l n + memCost ((szOf b n + 31) / 32))
/-- a live frame -/
structure FOK (scan : List Int → List Int) (v : V) (i : Nat) (f : Fm) : Prop where
  depth : f.depth = i
  sb : f.sbase = 64 * (i : Int)
  sp : f.sp ≤ 64
  cl : f.cb.length ≤ 512
  pc : f.pc ≤ (f.cb.length : Int) + 33
  ds : f.dests = scan f.cb
  il : f.inputY.2.1 ≤ 717280 ∧ f.inputY.2.1 ≤ f.inputY.2.2
  cc : f.code.2.1 ≤ f.code.2.2
  nt : f.ntv ≠ 0 → (f.ntv = 4 ∨ f.ntv = 5) ∧ f.cb.length = 0 ∧ makes f.kind = false
  kd : f.kind ≤ 7 ∧ (f.kind ≤ 1 ↔ i = 0)
  en : v.entered f.self
/-- a frame that waits for its child -/
structure WFK (m : Mc) (i : Nat) (f g : Fm) : Prop where
  pc : f.pc < f.cb.length
  kd : 2 ≤ g.kind
  op : f.cb.getD f.pc.toNat 0 = kindOpW g.kind
  sp : f.sp ≤ 63
  out : f.outLen = 0 ∨ (makes g.kind = false ∧ f.outOff + f.outLen ≤ szOf m.base i)
/-- what holds in every phase of a transaction -/
structure TI (v : V) (m : Mc) (S : Int) : Prop where
  vi : VInv v
  ap : m.applied = 1
  eo : v.entered m.origin
  ec : v.entered m.ecb
  rt : m.ret.2.1 ≤ 717280 ∧ m.ret.2.1 ≤ m.ret.2.2
  lm : 21000 ≤ m.limit ∧ m.limit ≤ 1048576
  tx : m.txgas ≤ m.limit - 21000
  hd : wv m.held = m.limit * wv m.price
  bf : wv (fromB m.ebfee) ≤ wv m.price
  a0 : m.a0 ≤ 8
  s0 : m.s0 ≤ 128
  b0 : m.base[0]? = some 0
  bl : m.buf.2.1 ≤ 5020960
  eh : m.ehash.2.1 ≤ 4
  hS : S + wv m.held < 115792089237316195423570985008687907853269984665640564039457584007913129639936
/-- room and weights, where s gas is spent -/
structure RW (v : V) (m : Mc) (S s : Int) : Prop where
  s0 : 0 ≤ s
  j : (v.journal.length : Int) ≤ 91 + s / 25
  l : (v.logs.length : Int) ≤ s / 375
  n : v.nmarks ≤ 2 + s / 100
  t : (v.temps.length : Int) ≤ s / 100
  a : (v.accts.length : Int) ≤ m.a0 + 21 + s / 2600
  sl : (v.slots.length : Int) ≤ m.s0 + 64 + s / 2100
  wp : WPast v S s
  wn : WNow v S s
theorem RW.mono {v : V} {m : Mc} {S s s' : Int} (h : RW v m S s) (hs : s ≤ s') : RW v m S s' :=
  ⟨by have := h.s0; omega, by have := h.j; omega, by have := h.l; omega, by have := h.n; omega, by have := h.t; omega, by have := h.a; omega, by have := h.sl; omega, h.wp.mono hs, h.wn.mono hs⟩
/-- running; c gas is paid that nothing has been bought for yet -/
structure RI (scan : List Int → List Int) (v : V) (m : Mc) (t : Nat) (c S : Int) : Prop where
  ti : TI v m S
  ph : m.phase = 1
  top : m.top = (t : Int)
  t6 : t ≤ 6
  st : m.status = 0
  mtY : m.mtop = (t : Int) + 1
  fr : ∀ i f, i ≤ t → m.frames[i]? = some f → FOK scan v i f
  wt : ∀ i f g, i < t → m.frames[i]? = some f → m.frames[i + 1]? = some g → WFK m i f g
  sn : ∀ i f, i ≤ t → m.frames[i]? = some f → 0 ≤ f.snap ∧ f.snap < v.nmarks
  sm : ∀ i f g, i < t → m.frames[i]? = some f → m.frames[i + 1]? = some g → f.snap < g.snap
  s0 : ∀ f, m.frames[0]? = some f → f.snap = 0
  bs : ∀ i, i ≤ t → 0 ≤ szOf m.base i ∧ szOf m.base i % 32 = 0 ∧ szOf m.base i ≤ 717280
  bt : baseOf m.base (t + 1) ≤ m.buf.2.1
  c0 : 0 ≤ c
  gs : gasTo m.frames (t + 1) + c ≤ m.txgas
  mc : costTo m.frames m.base (t + 1) ≤ 1048576
  rw_ : RW v m S (m.txgas - gasTo m.frames (t + 1) - c)
/-- the outer frame has ended -/
structure EI (v : V) (m : Mc) (S : Int) : Prop where
  ti : TI v m S
  ph : m.phase = 2
  top : m.top = -1
  st : 0 ≤ m.status ∧ m.status ≤ 11
  mtY : m.mtop = 0
  sn : ∀ f, m.frames[0]? = some f → f.snap = 0
  gs : gasOf m.frames 0 ≤ m.txgas
  rw_ : RW v m S (m.txgas - gasOf m.frames 0)
theorem gasTo_congr {l l' : List Fm} : ∀ n, (∀ i, i < n → gasOf l' i = gasOf l i) → gasTo l' n = gasTo l n
  | 0, _ => rfl
  | n + 1, h => by unfold gasTo; rw [gasTo_congr n (fun i hi => h i (by omega)), h n (by omega)]
theorem costTo_congr {l l' : List Fm} {b b' : List Int} : ∀ n, (∀ i, i < n → gasOf l' i = gasOf l i ∧ szOf b' i = szOf b i) → costTo l' b' n = costTo l b n
  | 0, _ => rfl
  | n + 1, h => by unfold costTo; rw [costTo_congr n (fun i hi => h i (by omega)), (h n (by omega)).1, (h n (by omega)).2]
theorem gasOf_set {l : List Fm} {t i : Nat} {f : Fm} (ht : t < l.length) : gasOf (l.set t f) i = if i = t then f.gas else gasOf l i := by
  unfold gasOf
  by_cases h : i = t
  · subst h; rw [List.getElem?_set_self ht, if_pos rfl]
  · rw [List.getElem?_set_ne (fun e => h e.symm), if_neg h]
theorem gasOf_some {l : List Fm} {i : Nat} {f : Fm} (h : l[i]? = some f) : gasOf l i = f.gas := by unfold gasOf; rw [h]
theorem baseOf_some {l : List Int} {i : Nat} {x : Int} (h : l[i]? = some x) : baseOf l i = x := by unfold baseOf; rw [h]
theorem memCost_nonneg {n : Int} (h : 0 ≤ n) : 0 ≤ memCost n := by
  unfold memCost
  have := Int.mul_nonneg h h
  omega
theorem frames_lt {m : Mc} (h : MTy m) {i : Nat} (hi : i < 7) : ∃ f, m.frames[i]? = some f := ⟨_, List.getElem?_eq_getElem (by rw [h.frames.1]; exact hi)⟩
/-- the vault goes on without a change of weights -/
structure Calm (v v' : V) (dj : Nat) : Prop where
  go : VGo v v' dj 0 0 0 0
  now : ∀ S s, WNow v S s → WNow v' S s
theorem Calm.refl {v : V} (h : VInv v) : Calm v v 0 := ⟨VGo.refl h, fun _ _ h => h⟩
theorem SetA.now {v v' : V} {A : List Int} {g : Acct → Acct} {a : Nat} (h : SetA v A g a v') (hb : (g (v.acY A)).bal = (v.acY A).bal) : ∀ S s, WNow v S s → WNow v' S s := by
  intro S s hw
  have hsum := h.sum
  rw [hb, ac_bal] at hsum
  exact ⟨by have := hw.sum; omega, by rw [h.vals, h.orig]; have := hw.clr; show _ ≤ v'.ref; rw [h.ref]; exact this, by show v'.ref ≤ _; rw [h.ref]; exact hw.gas⟩
theorem SetA.calm {v v' : V} {A : List Int} {g : Acct → Acct} {a : Nat} (h : SetA v A g a v') (hA : v.entered A) (hb : (g (v.acY A)).bal = (v.acY A).bal) : Calm v v' 1 := by
  have := h.a0 hA
  subst this
  exact ⟨h.go, h.now hb⟩
/-- the vault goes on by dj entries, and gas has been paid for them -/
theorem RW.calm {v v' : V} {m m' : Mc} {S s s' : Int} {dj : Nat} (h : RW v m S s) (hc : Calm v v' dj) (hs : s + 25 * dj ≤ s') (ha : m'.a0 = m.a0) (hs0 : m'.s0 = m.s0) : RW v' m' S s' := by
  have g := hc.go
  have hle : s ≤ s' := by omega
  have := h.s0
  refine ⟨by omega, ?_, ?_, ?_, ?_, ?_, ?_, (g.past S s h.wp).mono hle, (hc.now S s h.wn).mono hle⟩
  · have := g.j; have := h.j; omega
  · have := g.l; have := h.l; omega
  · rw [g.nm]; have := h.n; omega
  · have := g.t; have := h.t; omega
  · have := g.a; have := h.a; omega
  · have := g.s; have := h.sl; omega
theorem RW.revd {v v' : V} {m m' : Mc} {S s s' id : Int} (h : RW v m S s) (hr : Revd v v' id) (hid : id ≤ v.nmarks) (hs : s ≤ s') (ha : m'.a0 = m.a0) (hs0 : m'.s0 = m.s0) : RW v' m' S s' := by
  have := h.s0
  have hp := hr.past S s h.wp
  refine ⟨by omega, ?_, ?_, ?_, ?_, ?_, ?_, hp.1.mono hs, hp.2.mono hs⟩
  · have := hr.j; have := h.j; omega
  · have := hr.l; have := h.l; omega
  · rw [hr.nm]; have := h.n; omega
  · have := hr.t; have := h.t; omega
  · have := hr.a; have := h.a; omega
  · have := hr.s; have := h.sl; omega
theorem FOK.ent {scan : List Int → List Int} {v v' : V} {i : Nat} {f : Fm} (h : FOK scan v i f) (he : ∀ A, v.entered A → v'.entered A) : FOK scan v' i f := { h with en := he _ h.en }
theorem TI.go {v v' : V} {m : Mc} {S : Int} (h : TI v m S) (hi : VInv v') (he : ∀ A, v.entered A → v'.entered A) : TI v' m S := { h with vi := hi, eo := he _ h.eo, ec := he _ h.ec }
end Go.Proofs.YgvadwGreat
