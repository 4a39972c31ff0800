import Derived.Test.YgvacwGreatEc
import Derived.Test.YgvacwGreatJn
import Derived.Test.YgvacwGreatRk
namespace Go.Proofs.YgvacwGreat
set_option linter.unusedSimpArgs false
set_option linter.unusedVariables false
/-- the rows of 32 bytes -/
def rdH (w : World) (s : SV) : List (List Int) := (List.range s.2.1).map fun i => (((rdC w s).toList.map byteOf).drop (32 * i)).take 32
/-! the two machines -/
structure FrP (rd : SV → List Int) (L : List Int) (v : V) (m : Mc) (i : Nat) (f : Fm) (g : PF) : Prop where
  kind : f.kind = (g.kind : Int)
  nat : f.ntv = (g.nat : Int)
  statY : f.static = g.statY
  pc : f.pc = (g.pc : Int)
  gas : f.gas = (g.gas : Int)
  value : wn f.value = g.value
  oo : f.outOff = (g.outOff : Int)
  ol : f.outLen = (g.outLen : Int)
  self : f.self = g.self
  caller : f.caller = g.caller
  code : f.cb = g.code
  inputY : rd f.inputY = g.inputY
  stack : g.stack = (List.range f.sp.toNat).map (fun j => wn (m.stack.getD (64 * i + j) [0, 0, 0, 0]))
  mem : g.mem = (L.drop (baseOf m.base i).toNat).take (szOf m.base i).toNat
  saved : VR rd (v.past (v.marks f.snap.toNat).toNat) g.saved
structure RelP (rd : SV → List Int) (hs : List (List Int)) (L : List Int) (v : V) (m : Mc) (y : PSt) (fs : List PF) : Prop where
  vr : VR rd v.sx y.now
  og : ∀ A K, Wd K → wn (lkS v.accts v.slots A K).2.1 = ytl y.start A (wn K)
  ph : m.phase = (y.phase : Int)
  pr : wn m.price = y.price
  or : m.origin = y.origin
  ecb : m.ecb = y.env.cb
  enum : m.enum = y.env.num
  etime : m.etime = y.env.timeY
  eglim : m.eglim = y.env.glim
  erand : m.erand = y.env.rand
  ecid : m.ecid = y.env.cid
  ebfee : m.ebfee = y.env.bfee
  hs : hs = y.hashes
  ret : rd m.ret = y.ret
  top : m.top = (fs.length : Int) - 1
  fr : ∀ i f g, m.frames[i]? = some f → fs[i]? = some g → FrP rd L v m i f g
  left : m.phase = 2 → gasOf m.frames 0 = (y.left : Int)
structure Rel (w : World) (v : V) (m : Mc) (p : PSt × List PF) : Prop where
  ex : ∃ L, BufX w m.buf L ∧ RelP (rdB w) (rdH w m.ehash) L v m p.1 p.2
/-! codes in the past -/
theorem back_code {P : SV → Prop} {s : Sx} {e : Entry} (h : ∀ x ∈ s.a, P x.code) (he : P e.b) : ∀ x ∈ (Sx.back e s).a, P x.code := by
  intro x hx
  unfold Sx.back at hx
  split at hx
  · obtain ⟨y, hy, hh⟩ := mem_modify hx
    rcases hh with hh | hh
    · rw [hh]; exact h y hy
    · rw [hh]; unfold undoA; repeat' split
      all_goals first | exact he | exact h y hy
  · repeat' split at hx
    all_goals exact h x hx
theorem past_code {P : SV → Prop} {v : V} (h : ∀ x ∈ v.accts, P x.code) (hj : ∀ e ∈ v.journal, P e.b) (k : Nat) : ∀ x ∈ (v.past k).a, P x.code := by
  unfold V.past
  have : ∀ l : List Entry, (∀ e ∈ l, P e.b) → ∀ x ∈ (l.foldr Sx.back v.sx).a, P x.code := by
    intro l
    induction l with
    | nil => intro _; exact h
    | cons e l ih => intro hl; exact back_code (ih fun e' he' => hl e' (by simp [he'])) (hl e (by simp))
  exact this _ fun e he => hj e (List.mem_of_mem_drop he)
theorem lkA_code {rd rd' : SV → List Int} {l : List Acct} (hc : ∀ x ∈ l, rd' x.code = rd x.code) (h0 : rd' (none, 0, 0) = rd (none, 0, 0)) (A : List Int) : rd' (lkA l A).code = rd (lkA l A).code := by
  unfold lkA
  cases hg : lkG (fun x : Acct => x.addr) l A with
  | none => exact h0
  | some x => exact hc x (lkG_some hg).1
theorem VR.rd {rd rd' : SV → List Int} {s : Sx} {p : PW} (h : VR rd s p) (hc : ∀ x ∈ s.a, rd' x.code = rd x.code) (h0 : rd' (none, 0, 0) = rd (none, 0, 0)) : VR rd' s p :=
  { h with code := fun A => (lkA_code hc h0 A).trans (h.code A) }
/-- bytes of slices stay -/
structure Agr (rd rd' : SV → List Int) (v : V) (m : Mc) : Prop where
  codes : ∀ x ∈ v.accts, rd' x.code = rd x.code
  olds : ∀ e ∈ v.journal, rd' e.b = rd e.b
  nil_ : rd' (none, 0, 0) = rd (none, 0, 0)
  inp : ∀ f ∈ m.frames, rd' f.inputY = rd f.inputY
  ret : rd' m.ret = rd m.ret
theorem FrP.rd {rd rd' : SV → List Int} {L : List Int} {v : V} {m : Mc} {i : Nat} {f : Fm} {g : PF} (h : FrP rd L v m i f g) (ha : Agr rd rd' v m) (hf : f ∈ m.frames) : FrP rd' L v m i f g :=
  { h with inputY := by rw [ha.inp f hf]; exact h.inputY
           saved := h.saved.rd (past_code (P := fun s => rd' s = rd s) ha.codes ha.olds _) ha.nil_ }
theorem RelP.rd {rd rd' : SV → List Int} {hs : List (List Int)} {L : List Int} {v : V} {m : Mc} {y : PSt} {fs : List PF} (h : RelP rd hs L v m y fs) (ha : Agr rd rd' v m) : RelP rd' hs L v m y fs :=
  { h with vr := h.vr.rd ha.codes ha.nil_
           ret := by rw [ha.ret]; exact h.ret
           fr := fun i f g hf hg => (h.fr i f g hf hg).rd ha (List.mem_of_getElem? hf) }
theorem MS.agr [Om] {w w' : World} {C : Nat} {c : Array Value} {v : V} {B B' : VB} {m m' : Mc} (hM : MS w C c v B m) (hS : MStep w w' C B m B' m') : Agr (rdB w) (rdB w') v m :=
  ⟨fun x hx => (hM.vs.codes x hx).rdk hM hS, fun e he => (hM.vs.olds e he).rdk hM hS, by rw [rdB_nil, rdB_nil], fun f hf => (hM.code f hf).2.rdk hM hS, hM.ret.rdk hM hS⟩
theorem HS.rdk {w w' : World} {s : SV} (h : HS w s) (hk : KT 28 w w') : rdH w' s = rdH w s := by
  unfold rdH rdC
  rcases h with ⟨h1, h2⟩ | ⟨b, L, fz, h1, h2, h3⟩
  · rw [h1]
  · rw [h1]; simp only; rw [h2.h, (hk _ _ _ h2).h]
theorem MStep.k28 [Om] {w w' : World} {C : Nat} {c : Array Value} {v : V} {B B' : VB} {m m' : Mc} (hM : MS w C c v B m) (hS : MStep w w' C B m B' m') : KT 28 w w' := fun b r fz hb => hb.keepO hS.keep (by
  rintro (hh | hh)
  · exact hM.vs.not_own hb (by decide) hh
  · rcases hM.buf with h | ⟨b', L, h1, h2, h3⟩
    · unfold bb at hh; rw [h] at hh; cases hh
    · unfold bb at hh; rw [h1] at hh
      simp at hh; subst hh
      exact absurd (Hb.type_eq hb h2) (by decide))
end Go.Proofs.YgvacwGreat
