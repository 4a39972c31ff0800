import Derived.Test.YgvacwGreatEd
namespace Go.Proofs.YgvacwGreat
set_option linter.unusedSimpArgs false
set_option linter.unusedVariables false
/-! plain moves of the relation -/
theorem KT.rd [Om] {w w' : World} {C : Nat} {c : Array Value} {v : V} {B : VB} {m : Mc} (hM : MS w C c v B m) (h5 : KT 5 w w') : Agr (rdB w) (rdB w') v m :=
  ⟨fun x hx => ((hM.vs.codes x hx).rd.kt h5).rd, fun e he => ((hM.vs.olds e he).rd.kt h5).rd, by rw [rdB_nil, rdB_nil], fun f hf => ((hM.code f hf).2.rd.kt h5).rd, (hM.ret.rd.kt h5).rd⟩
theorem Rel.kt [Om] {w w' : World} {C : Nat} {c : Array Value} {v : V} {B : VB} {m : Mc} {p : PSt × List PF} (h : Rel w v m p) (hM : MS w C c v B m) (h5 : KT 5 w w') (h28 : KT 28 w w') : Rel w' v m p := by
  obtain ⟨L, hL, hP⟩ := h.ex
  exact ⟨L, hL.kt h5, by rw [hM.hash.rdk h28]; exact hP.rd (KT.rd hM h5)⟩
theorem Rel.ext [Om] {w w' : World} {C : Nat} {c : Array Value} {v : V} {B : VB} {m : Mc} {p : PSt × List PF} (h : Rel w v m p) (hM : MS w C c v B m) (hE : Ext w w') : Rel w' v m p := h.kt hM (KT.ext hE) (KT.ext hE)
/-- the vault goes on -/
theorem FrP.vault {rd : SV → List Int} {L : List Int} {v v' : V} {m : Mc} {i : Nat} {f : Fm} {g : PF} (h : FrP rd L v m i f g) (hv : VInv v) (hk : VK v v') (hs : 0 ≤ f.snap ∧ f.snap < v.nmarks) : FrP rd L v' m i f g := by
  refine { h with saved := ?_ }
  have hm := hv.m0 f.snap.toNat (by omega)
  rw [hk.mrk]
  exact h.saved.ext (hk.past _ (by omega)) (past_rng hv _)
theorem RelP.vault {rd : SV → List Int} {hs : List (List Int)} {L : List Int} {v v' : V} {m : Mc} {y : PSt} {fs : List PF} {p' : PW} (h : RelP rd hs L v m y fs) (hv : VInv v) (hk : VK v v') (hvr : VR rd v'.sx p')
    (hsn : ∀ i f, i < fs.length → m.frames[i]? = some f → 0 ≤ f.snap ∧ f.snap < v.nmarks) : RelP rd hs L v' m { y with now := p' } fs :=
  { h with vr := hvr
           og := fun A K hK => by rw [hk.og]; exact h.og A K hK
           fr := fun i f g hf hg => (h.fr i f g hf hg).vault hv hk (hsn i f (lt_of_getElem? hg) hf) }
/-- the frames below do not see the top frame's words -/
theorem FrP.low {rd : SV → List Int} {L L' : List Int} {v : V} {m m' : Mc} {i t : Nat} {f : Fm} {g : PF} (h : FrP rd L v m i f g) (hi : i < t) (hsp : f.sp ≤ 64) (hst : ∀ j, j < 64 * t → m'.stack.getD j [0, 0, 0, 0] = m.stack.getD j [0, 0, 0, 0])
    (hmem : (L'.drop (baseOf m'.base i).toNat).take (szOf m'.base i).toNat = (L.drop (baseOf m.base i).toNat).take (szOf m.base i).toNat) : FrP rd L' v m' i f g := by
  refine { h with stack := ?_, mem := ?_ }
  · rw [h.stack]
    refine List.map_congr_left fun j hj => ?_
    rw [List.mem_range] at hj
    rw [hst _ (by omega)]
  · rw [hmem]; exact h.mem
/-- the top frame is set -/
theorem RelP.top_ {rd : SV → List Int} {hs : List (List Int)} {L L' : List Int} {v : V} {m m' : Mc} {y y' : PSt} {rest : List PF} {g g' : PF} {t : Nat} {f f' : Fm} (h : RelP rd hs L v m y (rest ++ [g])) (ht : t = rest.length) (hf : m.frames[t]? = some f) (hph : m.phase = 1)
    (hsp : ∀ i f, i < t → m.frames[i]? = some f → f.sp ≤ 64) {stk : List (List Int)} {r' bf : SV} {bs : List Int} (e : m' = { m with stack := stk, frames := m.frames.set t f', ret := r', buf := bf, base := bs }) (hst : ∀ j, j < 64 * t → stk.getD j [0, 0, 0, 0] = m.stack.getD j [0, 0, 0, 0])
    (hmem : ∀ i, i < t → (L'.drop (baseOf bs i).toNat).take (szOf bs i).toNat = (L.drop (baseOf m.base i).toNat).take (szOf m.base i).toNat)
    (hg : FrP rd L' v m' t f' g') (hret : rd r' = y'.ret) (hy : y' = { y with ret := y'.ret }) : RelP rd hs L' v m' y' (rest ++ [g']) := by
  rw [hy, e]
  refine { h with ret := hret, top := ?_, fr := ?_, left := fun hh => ?_ }
  · show m.top = _; rw [h.top]; simp
  · intro i f1 g1 hf1 hg1
    by_cases hi : i < t
    · rw [List.getElem?_append_left (by omega)] at hg1
      have hf2 : m.frames[i]? = some f1 := by
        rw [← hf1]; show _ = (m.frames.set t f')[i]?; rw [List.getElem?_set_ne (by omega)]
      exact (h.fr i f1 g1 hf2 (by rw [List.getElem?_append_left (by omega)]; exact hg1)).low hi (hsp i f1 hi hf2) hst (hmem i hi)
    · have hl := lt_of_getElem? hg1
      simp at hl
      have : i = t := by omega
      subst this
      have e1 : f1 = f' := by
        have : (m.frames.set i f')[i]? = some f1 := hf1
        rw [List.getElem?_set_self (lt_of_getElem? hf)] at this
        exact (Option.some.inj this).symm
      have e2 : g1 = g' := by rw [ht, List.getElem?_append_right (Nat.le_refl _)] at hg1; simpa using hg1.symm
      rw [e1, e2]
      rw [e] at hg; exact hg
  · have : m.phase = 2 := hh
    omega
theorem stack_take (l : List (List Int)) (b n k : Nat) : ((List.range n).map (fun j => wn (l.getD (b + j) [0, 0, 0, 0]))).take (n - k) = (List.range (n - k)).map (fun j => wn (l.getD (b + j) [0, 0, 0, 0])) := by
  rw [← List.map_take, List.take_range]
  congr 2; omega
theorem getD_setN {l : List (List Int)} {i j : Nat} {W d : List Int} (h : i ≠ j) : (l.set i W).getD j d = l.getD j d := by
  rw [List.getD_eq_getElem?_getD, List.getD_eq_getElem?_getD, List.getElem?_set_ne h]
theorem getD_setS {l : List (List Int)} {i : Nat} {W d : List Int} (h : i < l.length) : (l.set i W).getD i d = W := by
  rw [List.getD_eq_getElem?_getD, List.getElem?_set_self h]; rfl
/-- operands -/
theorem FrP.arg {rd : SV → List Int} {L : List Int} {v : V} {m : Mc} {t : Nat} {f : Fm} {g : PF} (h : FrP rd L v m t f g) (hsb : f.sbase = 64 * (t : Int)) (hs0 : 0 ≤ f.sp) (i : Nat) : yarg g i = wn (m.argW f i) := by
  unfold yarg Mc.argW
  have hl : g.stack.length = f.sp.toNat := by rw [h.stack]; simp
  by_cases hi : i < g.stack.length
  · rw [if_pos hi, if_neg (by omega), getD_ge (by omega)]
    have key : ∀ j, j < f.sp.toNat → g.stack[j]? = some (wn (m.stack.getD (64 * t + j) [0, 0, 0, 0])) := by
      intro j hj; rw [h.stack]; simp [hj]
    have := key (g.stack.length - 1 - i) (by omega)
    rw [List.getElem?_eq_getElem (by omega)] at this
    rw [Option.some.inj this]
    congr 2
    omega
  · rw [if_neg hi, if_pos (by omega)]; rfl
theorem FrP.len {rd : SV → List Int} {L : List Int} {v : V} {m : Mc} {t : Nat} {f : Fm} {g : PF} (h : FrP rd L v m t f g) (hs0 : 0 ≤ f.sp) : (g.stack.length : Int) = f.sp := by rw [h.stack]; simp; omega
theorem FrP.opc {rd : SV → List Int} {L : List Int} {v : V} {m : Mc} {t : Nat} {f : Fm} {g : PF} (h : FrP rd L v m t f g) : yopcode g = Mc.opc f := by
  unfold yopcode Mc.opc
  rw [← h.code, h.pc]
  by_cases hp : g.pc < f.cb.length
  · rw [if_pos hp, if_neg (by omega), Int.toNat_natCast]
  · rw [if_neg hp, if_pos (by omega)]
/-- settled -/
def psettle (g : PF) (k : Nat) (gv : Bool) (n : Nat) (st : Nat) : PF := { g with stack := g.stack.take (g.stack.length - k) ++ (if gv = true then [n] else []), pc := g.pc + st }
theorem RelP.settle {rd : SV → List Int} {hs : List (List Int)} {L : List Int} {v : V} {m : Mc} {y : PSt} {rest : List PF} {g : PF} {t : Nat} {f : Fm} (h : RelP rd hs L v m y (rest ++ [g])) (ht : t = rest.length) (hf : m.frames[t]? = some f) (hph : m.phase = 1)
    (hsp : ∀ i f, i ≤ t → m.frames[i]? = some f → f.sp ≤ 64) (hsb : f.sbase = 64 * (t : Int)) (hs0 : 0 ≤ f.sp) (hstl : m.stack.length = 448) (ht6 : t ≤ 6) {k st : Nat} {gv : Bool} {W : List Int} (hk : (k : Int) ≤ f.sp) (hgv : gv = true → f.sp - k < 64) :
    RelP rd hs L v (m.settle t f k gv W st) y (rest ++ [psettle g k gv (wn W) st]) := by
  have hg := h.fr t f g hf (by rw [ht, List.getElem?_append_right (Nat.le_refl _)]; simp)
  have hl := hg.len hs0
  have hi : (f.sbase + f.sp - (k : Int)).toNat = 64 * t + (f.sp.toNat - k) := by omega
  refine h.top_ (m' := m.settle t f k gv W st) ht hf hph (fun i f hi hf => hsp i f (by omega) hf) (f' := { f with sp := f.sp - k + (if gv = true then 1 else 0), pc := f.pc + st }) (stk := if gv = true then m.stack.set (f.sbase + f.sp - k).toNat W else m.stack) (r' := m.ret) (bf := m.buf) (bs := m.base) rfl ?_ (fun _ _ => rfl) ?_ h.ret rfl
  · intro j hj
    split
    · exact getD_setN (by omega)
    · rfl
  · refine { hg with pc := ?_, stack := ?_ }
    · show f.pc + (st : Int) = ((g.pc + st : Nat) : Int); rw [hg.pc]; omega
    · show g.stack.take (g.stack.length - k) ++ (if gv = true then [wn W] else []) = _
      have hn : g.stack.length = f.sp.toNat := by omega
      rw [hn, hg.stack, stack_take]
      cases gv with
      | false =>
        simp only [Bool.false_eq_true, al_i0, List.append_nil, Int.add_zero]
        rw [show f.sp.toNat - k = (f.sp - (k : Int)).toNat by omega]
        rfl
      | true =>
        simp only [if_true]
        show _ = (List.range (f.sp - (k : Int) + 1).toNat).map (fun j => wn ((m.stack.set (f.sbase + f.sp - (k : Int)).toNat W).getD (64 * t + j) [0, 0, 0, 0]))
        have := hgv rfl
        rw [show (f.sp - (k : Int) + 1).toNat = (f.sp.toNat - k) + 1 by omega, List.range_succ, List.map_append, hi]
        congr 1
        · refine List.map_congr_left fun j hj => ?_
          rw [List.mem_range] at hj
          rw [getD_setN (by omega)]
        · simp only [List.map_cons, List.map_nil]
          rw [getD_setS (by omega)]
end Go.Proofs.YgvacwGreat
