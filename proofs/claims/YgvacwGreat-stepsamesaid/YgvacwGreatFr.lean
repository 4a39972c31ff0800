import Derived.Test.YgvacwGreatFq
import Derived.Test.YgvacwGreatOl
namespace Go.Proofs.YgvacwGreat
set_option linter.unusedSimpArgs false
set_option linter.unusedVariables false
structure IdM (m : Mc) : Prop where
  ph : m.phase = 0
  ap : m.applied = 0
  st : m.status = 0
  mtY : m.mtop = 0
  tp : m.top = -1
  b0 : m.base[0]? = some 0
  bf : m.buf = (none, 0, 0)
  eh : m.ehash.2.1 ≤ 4
  lm : m.limit = 0
  tx : m.txgas = 0
  hd : m.held = [0, 0, 0, 0]
  pr : m.price = [0, 0, 0, 0]
  rt : m.ret = (none, 0, 0)
  og : m.origin = List.replicate 20 0
  md : m.made = List.replicate 20 0
theorem idM0 (e : Ev) (hs : SV) (h : hs.2.1 ≤ 4) : IdM (M0 e hs) := ⟨rfl, rfl, rfl, rfl, rfl, rfl, rfl, h, rfl, rfl, rfl, rfl, rfl, rfl, rfl⟩
theorem cleared_same : ∀ l : List (List Int), cleared l l = 0
  | [] => rfl
  | x :: l => by
    unfold cleared
    rw [cleared_same l, if_neg (by rintro ⟨h1, h2⟩; exact h2 h1)]; rfl
theorem FilV.opg {v : V} {na ns : Nat} {Sb : Int} (h : FilV v na ns Sb) : OpG v 0 v.accts.length v.slots.length (sumW v.sc.bals) where
  vi := h.vi
  j := by rw [h.jl]; simp
  a := Nat.le_refl _
  s := Nat.le_refl _
  l := by rw [h.lg]; rfl
  t := by rw [h.tp]; rfl
  nm := h.nm
  now := ⟨rfl, by
    have e : v.sc.vals = v.origs := by
      unfold V.sc V.origs
      exact List.map_congr_left fun x hx => (h.sl x hx).2.symm
    rw [e, cleared_same]
    show 4800 * 0 ≤ v.ref
    rw [h.rf]; decide, by
    show v.ref ≤ _
    rw [h.rf]; decide⟩
def Mc.sMade (m : Mc) (x : List Int) : Mc := { m with made := x }
def Mc.sA0 (m : Mc) (x : Int) : Mc := { m with a0 := x }
def Mc.sS0 (m : Mc) (x : Int) : Mc := { m with s0 := x }
def Mc.sApp (m : Mc) (x : Int) : Mc := { m with applied := x }
def Mc.sLim (m : Mc) (x : Int) : Mc := { m with limit := x }
def Mc.sTx (m : Mc) (x : Int) : Mc := { m with txgas := x }
def Mc.sHeld (m : Mc) (x : List Int) : Mc := { m with held := x }
def Mc.sPr (m : Mc) (x : List Int) : Mc := { m with price := x }
def Mc.sOr (m : Mc) (x : List Int) : Mc := { m with origin := x }
def Mc.sRet (m : Mc) (x : SV) : Mc := { m with ret := x }
/-- the outer frame is laid -/
theorem ri_open {y8 y : V} {m : Mc} {x S : Int} {g : Fm} {nj na ns dj : Nat} (hti : TI y8 m S) (hst : m.status = 0) (hl7 : m.frames.length = 7) (hb8 : m.base.length = 8) (hbx : m.base[0]? = some x) (hG : OpG y8 nj na ns S) (hnj : nj ≤ 87) (hna : (na : Int) ≤ m.a0 + 21) (hns : (ns : Int) ≤ m.s0 + 64) (hadv : Adv y8 y dj 0 1) (hdj : dj ≤ 4) (hk : FOK scanW y 0 g) (hsn : g.snap = 0) (hg0 : 0 ≤ g.gas) (hgas : g.gas = m.txgas) (hg1 : g.gas ≤ 1048576) :
    RI scanW y (m.enter 0 x g) 0 0 S := by
  have hx0 : x = 0 := by rw [hti.b0] at hbx; injection hbx with hbx; exact hbx.symm
  subst hx0
  have hl : 0 < m.frames.length := by omega
  have hnm := hadv.nm
  have hG0 := hG.nm
  have hget : ∀ f'', (m.frames.set 0 g)[0]? = some f'' → f'' = g := by
    intro f'' hf''
    rw [List.getElem?_set_self hl] at hf''; injection hf'' with hf''; exact hf''.symm
  have hgas1 : gasTo (m.frames.set 0 g) 1 = g.gas := by
    show 0 + gasOf (m.frames.set 0 g) 0 = _
    rw [gasOf_set hl, if_pos rfl]; omega
  have eb0 : baseOf (m.base.set (0 + 1) 0) 0 = 0 := baseOf_some (by rw [List.getElem?_set_ne (by omega)]; exact hti.b0)
  have eb1 : baseOf (m.base.set (0 + 1) 0) 1 = 0 := baseOf_some (by rw [List.getElem?_set_self (by omega)])
  have hsz0 : szOf (m.base.set (0 + 1) 0) 0 = 0 := by unfold szOf; rw [eb1, eb0]; rfl
  refine ⟨{ (hti.go hadv.vi hadv.en) with rt := ?_, b0 := ?_ }, rfl, rfl, by omega, hst, rfl, ?_, ?_, ?_, ?_, ?_, ?_, ?_, Int.le_refl _, ?_, ?_, ?_⟩
  · exact ⟨by show 0 ≤ 717280; decide, Nat.le_refl _⟩
  · show (m.base.set (0 + 1) 0)[0]? = some 0
    rw [List.getElem?_set_ne (by omega)]; exact hti.b0
  · intro i f'' hi hf''
    obtain rfl : i = 0 := by omega
    rw [hget f'' hf'']; exact hk
  · intro i f'' g' hi; omega
  · intro i f'' hi hf''
    obtain rfl : i = 0 := by omega
    rw [hget f'' hf'', hsn]; omega
  · intro i f'' g' hi; omega
  · intro f'' hf''
    rw [hget f'' hf'']; exact hsn
  · intro i hi
    obtain rfl : i = 0 := by omega
    show 0 ≤ szOf (m.base.set (0 + 1) 0) 0 ∧ szOf (m.base.set (0 + 1) 0) 0 % 32 = 0 ∧ szOf (m.base.set (0 + 1) 0) 0 ≤ 717280
    rw [hsz0]; decide
  · show baseOf (m.base.set (0 + 1) 0) 1 ≤ m.buf.2.1
    rw [eb1]; omega
  · show gasTo (m.frames.set 0 g) 1 + 0 ≤ m.txgas
    omega
  · show 0 + (gasOf (m.frames.set 0 g) 0 + memCost ((szOf (m.base.set (0 + 1) 0) 0 + 31) / 32)) ≤ 1048576
    rw [gasOf_set hl, if_pos rfl, hsz0]
    have : memCost ((0 + 31) / 32) = 0 := by decide
    rw [this]; omega
  · have hs : m.txgas - gasTo (m.frames.set 0 g) 1 - 0 = 0 := by omega
    show RW y (m.enter 0 0 g) S (m.txgas - gasTo (m.frames.set 0 g) 1 - 0)
    rw [hs]
    have h1 := hadv.j
    have h2 := hadv.a
    have h3 := hadv.s
    have h4 := hadv.l
    have h5 := hadv.t
    have h6 := hG.j
    have h7 := hG.a
    have h8 := hG.s
    have h9 := hG.l
    have h10 := hG.t
    exact ⟨by omega, by omega, by omega, by omega, by omega, by show _ ≤ m.a0 + 21 + _; omega, by show _ ≤ m.s0 + 64 + _; omega, hadv.past S 0 ⟨fun i hi => by rw [hG0] at hi; omega⟩ hG.now, hadv.now S 0 hG.now⟩

end Go.Proofs.YgvacwGreat
