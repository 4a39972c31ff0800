import Derived.Test.YgvacwGreatFf
import Derived.Test.YgvacwGreatOq
import Derived.Test.YgvacwGreatHi
namespace Go.Proofs.YgvacwGreat
set_option linter.unusedSimpArgs false
set_option linter.unusedVariables false
/-- bytes and hashes stay -/
structure KK (a w : World) : Prop where
  k5 : KT 5 a w
  k28 : KT 28 a w
theorem KK.ext {a w : World} (h : Ext a w) : KK a w := ⟨KT.ext h, KT.ext h⟩
theorem KK.refl (a : World) : KK a a := KK.ext (Ext.refl a)
theorem KK.trans {a b c : World} (h : KK a b) (h' : KK b c) : KK a c := ⟨h.k5.trans h'.k5, h.k28.trans h'.k28⟩
theorem KK.set {a w : World} {b : Nat} {x : Array Value} {T : TypeId} {fz : Nat × Nat} {o : Obj} (h : KK a w) (hb : Hb w b (.cells x T fz)) (h1 : 5 ≠ T) (h2 : 28 ≠ T) : KK a (setB w b o) := ⟨h.k5.trans (KT.setB hb h1), h.k28.trans (KT.setB hb h2)⟩
theorem KK.kc {a w w' : World} {C : Nat} {c : Array Value} {T : TypeId} {fz : Nat × Nat} (h : KK a w) (hk : KeepO (fun b => b = C) w w') (hb : Hb w C (.cells c T fz)) (h1 : T ≠ 5) (h2 : T ≠ 28) : KK a w' := ⟨h.k5.trans (KC.kt hk hb h1), h.k28.trans (KC.kt hk hb h2)⟩
theorem Rel.kk [Om] {w w' : World} {C : Nat} {c : Array Value} {v : V} {B : VB} {m : Mc} {p : PSt × List PF} (h : Rel w v m p) (hM : MS w C c v B m) (hk : KK w w') : Rel w' v m p := h.kt hM hk.k5 hk.k28
theorem Rel.ret0 {w : World} {v : V} {m : Mc} {y : PSt} {fs : List PF} (h : Rel w v m (y, fs)) : Rel w v { m with ret := (none, 0, 0) } ({ y with ret := [] }, fs) := by
  obtain ⟨L, hL, hP⟩ := h.ex
  exact ⟨L, hL, { hP with ret := rdB_nil _ _ _, fr := fun i f g hf hg => { (hP.fr i f g hf hg) with } }⟩
theorem ntv_y (A : List Int) : ntvW A = (ynative A : Int) := by
  unfold ntvW ynative nat4 nat5
  split
  · rfl
  · split <;> rfl
theorem sent_y {g : Nat} {W : List Int} (hW : Wd W) : sentW (g : Int) W = (ysent g (wn W) : Int) := by
  have := wn_int hW
  unfold sentW ysent
  rw [Nat.min_def]
  split <;> split <;> omega
theorem RelP.setf {rd : SV → List Int} {hs : List (List Int)} {L : List Int} {v : V} {m : Mc} {y : PSt} {rest : List PF} {g : PF} {t : Nat} {f : Fm} (h : RelP rd hs L v m y (rest ++ [g])) (ht : t = rest.length) (hI : MI m t) (hf : m.frames[t]? = some f) (a b c : Nat) :
    RelP rd hs L v { m with frames := m.frames.set t { f with gas := (a : Int), outOff := (b : Int), outLen := (c : Int) } } y (rest ++ [{ g with gas := a, outOff := b, outLen := c }]) := by
  have hg := h.fr t f g hf (by rw [ht, List.getElem?_append_right (Nat.le_refl _)]; simp)
  refine h.top_ ht hf hI.ph (fun i f hi hf => (hI.fr i f (by omega) hf).2) (f' := { f with gas := (a : Int), outOff := (b : Int), outLen := (c : Int) }) (stk := m.stack) (r' := m.ret) (bf := m.buf) (bs := m.base) rfl (fun _ _ => rfl) (fun _ _ => rfl) ?_ h.ret rfl
  exact { hg with gas := rfl, oo := rfl, ol := rfl }
theorem MI.setf {m : Mc} {t : Nat} {f f' : Fm} (h : MI m t) (hf : m.frames[t]? = some f) (e1 : f'.sbase = f.sbase) (e2 : f'.sp = f.sp) : MI { m with frames := m.frames.set t f' } t := by
  refine ⟨h.ph, h.top, h.t6, fun i f2 hi hf2 => ?_⟩
  have hf2' : (m.frames.set t f')[i]? = some f2 := hf2
  rcases getElem?_setD hf hf2' with ⟨h1, h2⟩ | ⟨h1, h2⟩
  · exact h.fr i f2 hi h2
  · subst h1; subst h2; rw [e1, e2]; exact h.fr i f hi hf
theorem Rel.setf [Om] {w w' : World} {C : Nat} {c : Array Value} {v : V} {B : VB} {m : Mc} {y : PSt} {rest : List PF} {g : PF} {t : Nat} {f f' : Fm} (h : Rel w v m (y, rest ++ [g])) (hM : MS w C c v B m) (hI : MI m t) (hf : m.frames[t]? = some f) (hk : KK w w') {a b c' : Nat} (e : f' = { f with gas := (a : Int), outOff := (b : Int), outLen := (c' : Int) }) {k st : Nat} {kI sI : Int} (ekI : kI = (k : Int)) (esI : sI = (st : Int)) {gv : Bool} {W : List Int} (hks : (k : Int) ≤ f.sp) (hs0 : 0 ≤ f.sp) (hgv : gv = true → f.sp - k < 64) :
    Rel w' v (({ m with frames := m.frames.set t f' } : Mc).settle t f' kI gv W sI) (y, rest ++ [psettle { g with gas := a, outOff := b, outLen := c' } k gv (wn W) st]) := by
  subst e ekI esI
  have htl := h.len hI
  obtain ⟨L, hL, hP⟩ := (h.kk hM hk).ex
  refine ⟨L, hL, ?_⟩
  have h1 := hP.setf htl hI hf a b c'
  have hI1 := hI.setf (f' := { f with gas := (a : Int), outOff := (b : Int), outLen := (c' : Int) }) hf rfl rfl
  have hfr := hI.fr t f (Nat.le_refl _) hf
  have hf1 : (m.frames.set t { f with gas := (a : Int), outOff := (b : Int), outLen := (c' : Int) })[t]? = some { f with gas := (a : Int), outOff := (b : Int), outLen := (c' : Int) } := by rw [List.getElem?_set_self (lt_of_getElem? hf)]
  exact h1.settle htl hf1 hI1.ph (fun i f hi hf => (hI1.fr i f hi hf).2) hfr.1 hs0 hM.ty.stack.1 hI.t6 hks hgv
/-- the child of a call on both sides -/
structure CallY (g : PF) (o : Int) (K : Fm) (val : List Int) (inn : Int) : Prop where
  kind : K.kind = ((ycch g o).kind : Int)
  statY : K.static = (ycch g o).statY
  value : wn K.value = (ycch g o).value
  self : K.self = (ycch g o).self
  caller : K.caller = (ycch g o).caller
  val : wn val = ycallv g o
  inn : inn = (yck o : Int)
section
variable {rd : SV → List Int} {L : List Int} {v : V} {m : Mc} {t : Nat} {f : Fm} {g : PF}
theorem callY_241 (hF : FrP rd L v m t f g) (h1 : yarg g 1 = wn (m.argW f 1)) (h2 : yarg g 2 = wn (m.argW f 2)) (hW : Wd (m.argW f 1)) : CallY g 241 ((kF 2 0 f.static (addrW (m.argW f 1)) f.self [0, 0, 0, 0] (none, 0, 0)).sValue (m.argW f 2)) (m.argW f 2) 3 := by
  rw [addrW_y hW, ← h1]
  refine ⟨?_, ?_, ?_, ?_, ?_, ?_, ?_⟩ <;> first | (rw [ycch_241]; first | rfl | exact hF.statY | exact hF.self | exact (h2.symm : wn (m.argW f 2) = yarg g 2)) | exact h2.symm | decide
theorem callY_242 (hF : FrP rd L v m t f g) (h1 : yarg g 1 = wn (m.argW f 1)) (h2 : yarg g 2 = wn (m.argW f 2)) (hW : Wd (m.argW f 1)) : CallY g 242 ((((kF 2 0 f.static (addrW (m.argW f 1)) f.self [0, 0, 0, 0] (none, 0, 0)).sValue (m.argW f 2)).sKind 7).sSelf f.self) (m.argW f 2) 3 := by
  refine ⟨?_, ?_, ?_, ?_, ?_, ?_, ?_⟩ <;> first | (rw [ycch_242]; first | rfl | exact hF.statY | exact hF.self | exact (h2.symm : wn (m.argW f 2) = yarg g 2)) | exact h2.symm | decide
theorem callY_244 (hF : FrP rd L v m t f g) : CallY g 244 (((((kF 2 0 f.static (addrW (m.argW f 1)) f.self [0, 0, 0, 0] (none, 0, 0)).sKind 3).sSelf f.self).sCaller f.caller).sValue f.value) [0, 0, 0, 0] 2 := by
  refine ⟨?_, ?_, ?_, ?_, ?_, ?_, ?_⟩ <;> first | (rw [ycch_244]; first | rfl | exact hF.statY | exact hF.self | exact hF.caller | exact hF.value) | rfl | decide
theorem callY_250 (hF : FrP rd L v m t f g) (h1 : yarg g 1 = wn (m.argW f 1)) (hW : Wd (m.argW f 1)) : CallY g 250 (((kF 2 0 f.static (addrW (m.argW f 1)) f.self [0, 0, 0, 0] (none, 0, 0)).sKind 4).sStatic true) [0, 0, 0, 0] 2 := by
  rw [addrW_y hW, ← h1]
  refine ⟨?_, ?_, ?_, ?_, ?_, ?_, ?_⟩ <;> first | (rw [ycch_250]; first | rfl | exact hF.statY | exact hF.self) | rfl | decide
end
theorem CallY.ch {g : PF} {o : Int} {K : Fm} {val : List Int} {inn : Int} (h : CallY g o K val inn) {rd : SV → List Int} {y : PSt} {kk : Int} {ks : Bool} {ka kb kx : List Int} (hK : K = kF kk 0 ks ka kb kx (none, 0, 0)) {x N : Int} {s7 s8 : SV} {Lc : List Int} (hx : x = (ycgas g o : Int)) (hin : rd s7 = ycut g.mem (yarg g (yck o)) (yarg g (yck o + 1))) (hN : N = (ynative (yaddr (yarg g 1)) : Int)) (hc : Lc = if ynative (yaddr (yarg g 1)) = 0 then (yacct y.now.accts (yaddr (yarg g 1))).code else []) :
    ChR rd (((((K.sGas x).sInput s7).sNative N).sCode s8).sCb Lc) (ycallx y g o) := by
  have hq : (ycch g o).pc = 0 ∧ (ycch g o).outOff = 0 ∧ (ycch g o).outLen = 0 ∧ (ycch g o).stack = [] ∧ (ycch g o).mem = [] := ⟨rfl, rfl, rfl, rfl, rfl⟩
  refine { kind := h.kind, nat := hN, statY := h.statY, pc := ?_, gas := hx, value := h.value, oo := ?_, ol := ?_, self := h.self, caller := h.caller, code := hc, inputY := hin, sp := ?_, stack := rfl, mem := rfl }
  · rw [hK]; rfl
  · rw [hK]; rfl
  · rw [hK]; rfl
  · rw [hK]; rfl
theorem yenter_ph (y : PSt) (fs : List PF) (cf : PF) (h : y.phase = 1) : ({ (yenter y fs cf).1 with phase := 1 } : PSt) = (yenter y fs cf).1 := by
  have : (yenter y fs cf).1.phase = 1 := by
    unfold yenter yentA yentB
    repeat' split
    all_goals exact h
  rw [← this]

end Go.Proofs.YgvacwGreat
