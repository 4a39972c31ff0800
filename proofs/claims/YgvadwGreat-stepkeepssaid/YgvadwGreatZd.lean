import Derived.Test.YgvadwGreatZb
import Derived.Test.YgvadwGreatZc
import Derived.Test.YgvadwGreatOm
import Derived.Test.YgvadwGreatOo
import Derived.Test.YgvadwGreatTe
namespace Go.Proofs.YgvadwGreat
set_option linter.unusedSimpArgs false
set_option linter.unusedVariables false
/-- the machine of a newY chain, as far as Open leans on it -/
structure IdM (m : Mc) : Prop where
  ph : m.phase = 0
  ap : m.applied = 0
  st : m.status = 0
  mtY : m.mtop = 0
  tp : m.top = -1
  b0 : m.base[0]? = some 0
  bf : m.buf = (none, 0, 0)
  eh : m.ehash.2.1 ≤ 4
  lm : m.limit = 0
  tx : m.txgas = 0
  hd : m.held = [0, 0, 0, 0]
  pr : m.price = [0, 0, 0, 0]
  rt : m.ret = (none, 0, 0)
  og : m.origin = List.replicate 20 0
  md : m.made = List.replicate 20 0
theorem idM0 (e : Ev) (hs : SV) (h : hs.2.1 ≤ 4) : IdM (M0 e hs) := ⟨rfl, rfl, rfl, rfl, rfl, rfl, rfl, h, rfl, rfl, rfl, rfl, rfl, rfl, rfl⟩
theorem ck_idle {v : V} {m : Mc} {S Sb : Int} (h : IdM m) (hF : FilV v 8 128 Sb) (hb : Sb < 115792089237316195423570985008687907853269984665640564039457584007913129639936) : Ck v m 0 S := by
  have hg : gOf m 0 = 0 := by unfold gOf; rw [if_neg (by rw [h.ph]; decide), if_neg (by rw [h.ph]; decide)]
  have hp : ¬ m.phase ≠ 0 := fun e => e h.ph
  exact { vi := hF.vi, top := by rw [h.tp]; rfl, n7 := by omega, mtY := h.mtY, ph := Or.inr ⟨rfl, Or.inl h.ph⟩, ap := by rw [h.ap]; decide, apn := fun e => absurd e hp, st := ⟨by rw [h.st]; decide, fun _ => h.st⟩, fr := fun i f hi => absurd hi (by omega), wt := fun i f g hi => absurd hi (by omega), sn := fun i f hi => absurd hi (by omega), sm := fun i f g hi => absurd hi (by omega), s0 := fun e => absurd e hp, nm := by rw [hF.nm]; decide, rt := by rw [h.rt]; decide, eo := fun e => absurd e hp, b0 := h.b0, bs := fun i hi => absurd hi (by omega), bt := fun hi => absurd hi (by omega), bl := by rw [h.bf]; decide, g0 := by rw [hg]; decide, gs := by rw [hg, h.tx]; decide, lm := by rw [h.lm]; decide, tx := by rw [h.tx, h.lm]; decide, ln := fun e => absurd e hp, mc := (by show (0 : Int) ≤ 1048576; decide), id0 := fun _ => ⟨hF.jl, hF.lg, hF.rf, hF.tp, hF.nm, hF.la, hF.ls, hF.acY, hF.sl, h.lm, h.tx, h.hd, h.pr, by rw [h.rt], h.og, h.md, by have := hF.sm; omega⟩, rw_ := fun e => absurd e hp }
theorem cleared_same : ∀ l : List (List Int), cleared l l = 0
  | [] => rfl
  | x :: l => by
    unfold cleared
    rw [cleared_same l, if_neg (by rintro ⟨h1, h2⟩; exact h2 h1)]; rfl
theorem FilV.opg {v : V} {na ns : Nat} {Sb : Int} (h : FilV v na ns Sb) : OpG v 0 v.accts.length v.slots.length (sumW v.sc.bals) where
  vi := h.vi
  j := by rw [h.jl]; simp
  a := Nat.le_refl _
  s := Nat.le_refl _
  l := by rw [h.lg]; rfl
  t := by rw [h.tp]; rfl
  nm := h.nm
  now := ⟨rfl, by
    have e : v.sc.vals = v.origs := by
      unfold V.sc V.origs
      exact List.map_congr_left fun x hx => (h.sl x hx).2.symm
    rw [e, cleared_same]
    show 4800 * 0 ≤ v.ref
    rw [h.rf]; decide, by
    show v.ref ≤ _
    rw [h.rf]; decide⟩
def Mc.sMade (m : Mc) (x : List Int) : Mc := { m with made := x }
def Mc.sA0 (m : Mc) (x : Int) : Mc := { m with a0 := x }
def Mc.sS0 (m : Mc) (x : Int) : Mc := { m with s0 := x }
def Mc.sApp (m : Mc) (x : Int) : Mc := { m with applied := x }
def Mc.sLim (m : Mc) (x : Int) : Mc := { m with limit := x }
def Mc.sTx (m : Mc) (x : Int) : Mc := { m with txgas := x }
def Mc.sHeld (m : Mc) (x : List Int) : Mc := { m with held := x }
def Mc.sPr (m : Mc) (x : List Int) : Mc := { m with price := x }
def Mc.sOr (m : Mc) (x : List Int) : Mc := { m with origin := x }
def Mc.sRet (m : Mc) (x : SV) : Mc := { m with ret := x }
/-- the outer frame is laid -/
theorem ri_open {y8 y : V} {m : Mc} {x S : Int} {g : Fm} {nj na ns dj : Nat} (hti : TI y8 m S) (hst : m.status = 0) (hl7 : m.frames.length = 7) (hb8 : m.base.length = 8) (hbx : m.base[0]? = some x) (hG : OpG y8 nj na ns S) (hnj : nj ≤ 87) (hna : (na : Int) ≤ m.a0 + 21) (hns : (ns : Int) ≤ m.s0 + 64) (hadv : Adv y8 y dj 0 1) (hdj : dj ≤ 4) (hk : FOK scanW y 0 g) (hsn : g.snap = 0) (hg0 : 0 ≤ g.gas) (hgas : g.gas = m.txgas) (hg1 : g.gas ≤ 1048576) :
    RI scanW y (m.enter 0 x g) 0 0 S := by
  have hx0 : x = 0 := by rw [hti.b0] at hbx; injection hbx with hbx; exact hbx.symm
  subst hx0
  have hl : 0 < m.frames.length := by omega
  have hnm := hadv.nm
  have hG0 := hG.nm
  have hget : ∀ f'', (m.frames.set 0 g)[0]? = some f'' → f'' = g := by
    intro f'' hf''
    rw [List.getElem?_set_self hl] at hf''; injection hf'' with hf''; exact hf''.symm
  have hgas1 : gasTo (m.frames.set 0 g) 1 = g.gas := by
    show 0 + gasOf (m.frames.set 0 g) 0 = _
    rw [gasOf_set hl, if_pos rfl]; omega
  have eb0 : baseOf (m.base.set (0 + 1) 0) 0 = 0 := baseOf_some (by rw [List.getElem?_set_ne (by omega)]; exact hti.b0)
  have eb1 : baseOf (m.base.set (0 + 1) 0) 1 = 0 := baseOf_some (by rw [List.getElem?_set_self (by omega)])
  have hsz0 : szOf (m.base.set (0 + 1) 0) 0 = 0 := by unfold szOf; rw [eb1, eb0]; rfl
  refine ⟨{ (hti.go hadv.vi hadv.en) with rt := ?_, b0 := ?_ }, rfl, rfl, by omega, hst, rfl, ?_, ?_, ?_, ?_, ?_, ?_, ?_, Int.le_refl _, ?_, ?_, ?_⟩
  · exact ⟨by show 0 ≤ 717280; decide, Nat.le_refl _⟩
  · show (m.base.set (0 + 1) 0)[0]? = some 0
    rw [List.getElem?_set_ne (by omega)]; exact hti.b0
  · intro i f'' hi hf''
    obtain rfl : i = 0 := by omega
    rw [hget f'' hf'']; exact hk
  · intro i f'' g' hi; omega
  · intro i f'' hi hf''
    obtain rfl : i = 0 := by omega
    rw [hget f'' hf'', hsn]; omega
  · intro i f'' g' hi; omega
  · intro f'' hf''
    rw [hget f'' hf'']; exact hsn
  · intro i hi
    obtain rfl : i = 0 := by omega
    show 0 ≤ szOf (m.base.set (0 + 1) 0) 0 ∧ szOf (m.base.set (0 + 1) 0) 0 % 32 = 0 ∧ szOf (m.base.set (0 + 1) 0) 0 ≤ 717280
    rw [hsz0]; decide
  · show baseOf (m.base.set (0 + 1) 0) 1 ≤ m.buf.2.1
    rw [eb1]; omega
  · show gasTo (m.frames.set 0 g) 1 + 0 ≤ m.txgas
    omega
  · show 0 + (gasOf (m.frames.set 0 g) 0 + memCost ((szOf (m.base.set (0 + 1) 0) 0 + 31) / 32)) ≤ 1048576
    rw [gasOf_set hl, if_pos rfl, hsz0]
    have : memCost ((0 + 31) / 32) = 0 := by decide
    rw [this]; omega
  · have hs : m.txgas - gasTo (m.frames.set 0 g) 1 - 0 = 0 := by omega
    show RW y (m.enter 0 0 g) S (m.txgas - gasTo (m.frames.set 0 g) 1 - 0)
    rw [hs]
    have h1 := hadv.j
    have h2 := hadv.a
    have h3 := hadv.s
    have h4 := hadv.l
    have h5 := hadv.t
    have h6 := hG.j
    have h7 := hG.a
    have h8 := hG.s
    have h9 := hG.l
    have h10 := hG.t
    exact ⟨by omega, by omega, by omega, by omega, by omega, by show _ ≤ m.a0 + 21 + _; omega, by show _ ≤ m.s0 + 64 + _; omega, hadv.past S 0 ⟨fun i hi => by rw [hG0] at hi; omega⟩ hG.now, hadv.now S 0 hG.now⟩
/-- a collision ends the transaction at once -/
theorem ck_coll {y8 : V} {m : Mc} {S : Int} {nj na ns : Nat} {f0 : Fm} (hti : TI y8 m S) (hty : MTy m) (hG : OpG y8 nj na ns S) (hnj : nj ≤ 87) (hna : (na : Int) ≤ m.a0 + 21) (hns : (ns : Int) ≤ m.s0 + 64) (hmt : m.mtop = 0) (htp : m.top = -1) (hf : m.frames[0]? = some f0) (f1 : Fm) (hg : f1.gas = 0) (hsn : f1.snap = 0) :
    Ck y8 { m with phase := 2, status := 12, frames := m.frames.set 0 f1 } 0 S := by
  have hl := lt_of_getElem? hf
  have hgo : gOf { m with phase := 2, status := 12, frames := m.frames.set 0 f1 } 0 = 0 := by
    unfold gOf
    show (if (2 : Int) = 1 then _ else if (2 : Int) = 2 then gasOf (m.frames.set 0 f1) 0 else 0) = 0
    rw [if_neg (by decide), if_pos rfl, gasOf_set hl, if_pos rfl]; exact hg
  have hG0 := hG.nm
  have htx := hty.txgas
  have hlm := hti.lm
  have h6 := hG.j
  have h7 := hG.a
  have h8 := hG.s
  have h9 := hG.l
  have h10 := hG.t
  exact { vi := hti.vi, top := by show m.top = _; rw [htp]; rfl, n7 := by omega, mtY := hmt, ph := Or.inr ⟨rfl, Or.inr rfl⟩, ap := (by show m.applied ≤ 1; rw [hti.ap]; decide), apn := fun _ => hti.ap, st := ⟨by show (12 : Int) ≤ 12; decide, fun hh => absurd rfl hh⟩, fr := fun i f hi => absurd hi (by omega), wt := fun i f g hi => absurd hi (by omega), sn := fun i f hi => absurd hi (by omega), sm := fun i f g hi => absurd hi (by omega), s0 := (fun _ f hf' => by rw [List.getElem?_set_self hl] at hf'; injection hf' with hf'; rw [← hf']; exact hsn), nm := by rw [hG0]; decide, rt := hti.rt.1, eo := fun _ => ⟨hti.eo, hti.ec⟩, b0 := hti.b0, bs := fun i hi => absurd hi (by omega), bt := fun hi => absurd hi (by omega), bl := hti.bl, g0 := by rw [hgo]; decide, gs := by rw [hgo]; exact htx.1, lm := hlm.2, tx := (by show m.txgas ≤ m.limit; have := hti.tx; omega), ln := fun _ => ⟨hlm.1, hti.tx, hti.hd, hti.bf⟩, mc := (by show (0 : Int) ≤ 1048576; decide), id0 := (fun hh => by cases hh), rw_ := fun _ => ⟨by
    rw [hgo]
    show RW y8 _ S (m.txgas - 0)
    refine RW.mono (s := 0) ⟨by omega, by omega, by omega, by omega, by omega, by show _ ≤ m.a0 + 21 + _; omega, by show _ ≤ m.s0 + 64 + _; omega, ⟨fun i hi => by rw [hG0] at hi; omega⟩, hG.now⟩ (by omega), hti.a0, hti.s0, hti.hS⟩ }
end Go.Proofs.YgvadwGreat
