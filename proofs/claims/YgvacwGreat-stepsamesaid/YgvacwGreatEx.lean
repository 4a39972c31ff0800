import Derived.Test.YgvacwGreatEt
import Derived.Test.YgvacwGreatEw
import Derived.Test.YgvacwGreatHa
namespace Go.Proofs.YgvacwGreat
set_option linter.unusedSimpArgs false
set_option linter.unusedVariables false
/-! a frame is left: the plain part -/
theorem FrP.cong {rd : SV → List Int} {L : List Int} {v : V} {m m' : Mc} {i : Nat} {f : Fm} {g : PF} (h : FrP rd L v m i f g) (hs : m'.stack = m.stack) (hb : m'.base = m.base) : FrP rd L v m' i f g :=
  { h with stack := by rw [hs]; exact h.stack
           mem := by rw [hb]; exact h.mem }
/-- what else the machine bears -/
structure McE (m m' : Mc) : Prop where
  ph : m'.phase = m.phase
  pr : m'.price = m.price
  or : m'.origin = m.origin
  ecb : m'.ecb = m.ecb
  enum : m'.enum = m.enum
  etime : m'.etime = m.etime
  eglim : m'.eglim = m.eglim
  erand : m'.erand = m.erand
  ecid : m'.ecid = m.ecid
  ebfee : m'.ebfee = m.ebfee
theorem RelP.cong {rd : SV → List Int} {hs : List (List Int)} {L : List Int} {v : V} {m m' : Mc} {y : PSt} {fs : List PF} (h : RelP rd hs L v m y fs) (he : McE m m') (h1 : m'.stack = m.stack) (h2 : m'.base = m.base) (h3 : m'.frames = m.frames) (h4 : m'.top = m.top) (h5 : m'.ret = m.ret) : RelP rd hs L v m' y fs where
  vr := h.vr
  og := h.og
  ph := by rw [he.ph]; exact h.ph
  pr := by rw [he.pr]; exact h.pr
  or := by rw [he.or]; exact h.or
  ecb := by rw [he.ecb]; exact h.ecb
  enum := by rw [he.enum]; exact h.enum
  etime := by rw [he.etime]; exact h.etime
  eglim := by rw [he.eglim]; exact h.eglim
  erand := by rw [he.erand]; exact h.erand
  ecid := by rw [he.ecid]; exact h.ecid
  ebfee := by rw [he.ebfee]; exact h.ebfee
  hs := h.hs
  ret := by rw [h5]; exact h.ret
  top := by rw [h4]; exact h.top
  fr := fun i f g hf hg => (h.fr i f g (by rw [← h3]; exact hf) hg).cong h1 h2
  left := by rw [he.ph, h3]; exact h.left
theorem Rel.mtop {w : World} {v : V} {m : Mc} {p : PSt × List PF} (h : Rel w v m p) (x : Int) : Rel w v { m with mtop := x } p := by
  obtain ⟨L, hL, hP⟩ := h.ex
  exact ⟨L, hL, hP.cong ⟨rfl, rfl, rfl, rfl, rfl, rfl, rfl, rfl, rfl, rfl⟩ rfl rfl rfl rfl rfl⟩
/-- the code is laid -/
theorem Rel.code [Om] {w w2 : World} {C : Nat} {c : Array Value} {v v2 : V} {B : VB} {m : Mc} {y : PSt} {fs : List PF} {A : List Int} {s : SV} {L : List Int} (h : Rel w v m (y, fs)) (hM : MS w C c v B m) (hv : VInv v) (h5 : KT 5 w w2) (h28 : KT 28 w w2) (hx : SetX v A (fun x => { x with code := s }) v2) (hs : rdB w2 s = L)
    (hsn : ∀ i f, i < fs.length → m.frames[i]? = some f → 0 ≤ f.snap ∧ f.snap < v.nmarks) : Rel w2 v2 m (ysAccts y (yput y.now.accts { yacct y.now.accts A with code := L }), fs) := by
  obtain ⟨L', hL, hP⟩ := (h.kt hM h5 h28).ex
  exact ⟨L', hL, hP.vault hv hx.vk (hx.putCode hP.vr hs) hsn⟩
theorem find_mod {α β : Type} {p : α → Bool} {φ : α → β} {g : α → α} (hp : ∀ x, p (g x) = p x) (hφ : ∀ x, φ (g x) = φ x) : ∀ (l : List α) (i : Nat), ((l.modify i g).find? p).map φ = (l.find? p).map φ
  | [], i => by simp
  | a :: l, 0 => by
    simp only [List.modify_zero_cons, List.find?_cons, hp]
    cases p a <;> simp [hφ]
  | a :: l, i + 1 => by
    simp only [List.modify_succ_cons, List.find?_cons]
    cases p a
    · exact find_mod hp hφ l i
    · rfl
theorem back_og (e : Entry) (s : Sx) (A K : List Int) : (lkS (Sx.back e s).a (Sx.back e s).s A K).2.1 = (lkS s.a s.s A K).2.1 := by
  have hm : ∀ o : Option SvT, (o.getD sl0).2.1 = (o.map (fun z => z.2.1)).getD [0, 0, 0, 0] := fun o => by cases o <;> rfl
  unfold lkS
  rw [hm, hm, Option.map_map, Option.map_map]
  congr 1
  unfold Sx.back
  split
  · have : keyS (s.a.modify e.at_.toNat (undoA e)) = keyS s.a := funext fun r => by unfold keyS; rw [adrOf_mod (undoA_addr e)]
    show Option.map _ (lkG (keyS (s.a.modify e.at_.toNat (undoA e))) s.s (some A, K)) = _
    rw [this]
  · split
    · show Option.map _ (lkG (keyS s.a) (s.s.modify e.at_.toNat (undoS e)) (some A, K)) = _
      unfold lkG
      exact find_mod (fun x => by unfold keyS; rw [(undoS_k e x).1, (undoS_k e x).2.1]) (fun x => (undoS_k e x).2.2) _ _
    · repeat' split
      all_goals rfl
theorem past_og (v : V) (k : Nat) (A K : List Int) : (lkS (v.past k).a (v.past k).s A K).2.1 = (lkS v.accts v.slots A K).2.1 := by
  unfold V.past
  have : ∀ l : List Entry, (lkS (l.foldr Sx.back v.sx).a (l.foldr Sx.back v.sx).s A K).2.1 = (lkS v.accts v.slots A K).2.1 := by
    intro l
    induction l with
    | nil => rfl
    | cons e l ih => rw [List.foldr_cons, back_og]; exact ih
  exact this _
/-- the vault goes back -/
theorem RelP.revert {rd : SV → List Int} {hs : List (List Int)} {L : List Int} {v : V} {m : Mc} {y : PSt} {rest : List PF} {g : PF} {t : Nat} {f : Fm} (h : RelP rd hs L v m y (rest ++ [g])) (hv : VInv v) (ht : t = rest.length) (hf : m.frames[t]? = some f) (hsn : ∀ i f', i ≤ t → m.frames[i]? = some f' → 0 ≤ f'.snap ∧ f'.snap ≤ f.snap) (hlt : f.snap < v.nmarks) :
    RelP rd hs L (v.revertTo f.snap).2 m { y with now := g.saved } (rest ++ [g]) := by
  have hs0 := (hsn t f (Nat.le_refl _) hf).1
  obtain ⟨h1, h2, h3⟩ := revertTo_sx hv hs0 hlt
  refine { h with vr := ?_, og := ?_, fr := ?_ }
  · show VR rd (v.revertTo f.snap).2.sx g.saved
    rw [h1]; exact (h.fr t f g hf (last_get ht)).saved
  · intro A K hK
    have e1 : (v.revertTo f.snap).2.accts = (v.past (v.marks f.snap.toNat).toNat).a := congrArg Sx.a h1
    have e2 : (v.revertTo f.snap).2.slots = (v.past (v.marks f.snap.toNat).toNat).s := congrArg Sx.s h1
    rw [e1, e2, past_og]; exact h.og A K hK
  · intro i f' g' hf' hg'
    have hi : i ≤ t := by have := lt_of_getElem? hg'; simp at this; omega
    have hb := hsn i f' hi hf'
    have hm := hv.mm f'.snap.toNat f.snap.toNat (by omega) (by omega)
    have hm0 := hv.m0 f'.snap.toNat (by omega)
    refine { (h.fr i f' g' hf' hg') with saved := ?_ }
    rw [h3, h2 _ (by omega)]
    exact (h.fr i f' g' hf' hg').saved
theorem Rel.revert [Om] {w w2 : World} {C : Nat} {c : Array Value} {v : V} {B : VB} {m : Mc} {y : PSt} {rest : List PF} {g : PF} {t : Nat} {f : Fm} (h : Rel w v m (y, rest ++ [g])) (hM : MS w C c v B m) (h5 : KT 5 w w2) (h28 : KT 28 w w2) (hv : VInv v) (ht : t = rest.length) (hf : m.frames[t]? = some f) (hsn : ∀ i f', i ≤ t → m.frames[i]? = some f' → 0 ≤ f'.snap ∧ f'.snap ≤ f.snap) (hlt : f.snap < v.nmarks) :
    Rel w2 (v.revertTo f.snap).2 m ({ y with now := g.saved }, rest ++ [g]) := by
  obtain ⟨L, hL, hP⟩ := (h.kt hM h5 h28).ex
  exact ⟨L, hL, hP.revert hv ht hf hsn hlt⟩
/-- the top frame goes, and the gas comes back -/
theorem RelP.pop {rd : SV → List Int} {hs : List (List Int)} {L : List Int} {v : V} {m m' : Mc} {y : PSt} {rest : List PF} {ppY g : PF} {s : Nat} {p : Fm} {g2 : Int} {gn : Nat} {o2 : SV} (h : RelP rd hs L v m y ((rest ++ [ppY]) ++ [g])) (hs' : s = rest.length) (hp : m.frames[s]? = some p) (hph : m.phase = 1) (hg : g2 = (gn : Int))
    (he : McE m m') (h1 : m'.stack = m.stack) (h2 : m'.base = m.base) (h3 : m'.frames = m.frames.set s { p with gas := p.gas + g2 }) (h4 : m'.top = (s : Int)) (h5 : m'.ret = o2) : RelP rd hs L v m' { y with ret := rd o2 } (rest ++ [{ ppY with gas := ppY.gas + gn }]) where
  vr := h.vr
  og := h.og
  ph := by rw [he.ph]; exact h.ph
  pr := by rw [he.pr]; exact h.pr
  or := by rw [he.or]; exact h.or
  ecb := by rw [he.ecb]; exact h.ecb
  enum := by rw [he.enum]; exact h.enum
  etime := by rw [he.etime]; exact h.etime
  eglim := by rw [he.eglim]; exact h.eglim
  erand := by rw [he.erand]; exact h.erand
  ecid := by rw [he.ecid]; exact h.ecid
  ebfee := by rw [he.ebfee]; exact h.ebfee
  hs := h.hs
  ret := by rw [h5]
  top := by rw [h4]; simp; omega
  fr := fun i f' g' hf hg' => by
    rw [h3] at hf
    by_cases hi : i < s
    · rw [List.getElem?_set_ne (by omega)] at hf
      rw [List.getElem?_append_left (by omega)] at hg'
      exact (h.fr i f' g' hf (by rw [List.getElem?_append_left (by simp; omega), List.getElem?_append_left (by omega)]; exact hg')).cong h1 h2
    · have hl := lt_of_getElem? hg'
      simp at hl
      have : i = s := by omega
      subst this
      rw [List.getElem?_set_self (lt_of_getElem? hp)] at hf
      rw [last_get hs'] at hg'
      obtain rfl := Option.some.inj hf
      obtain rfl := Option.some.inj hg'
      have hq := (h.fr i p ppY hp (by rw [List.getElem?_append_left (by simp; omega)]; exact last_get hs')).cong (m' := m') h1 h2
      refine { hq with gas := ?_ }
      show p.gas + g2 = ((ppY.gas + gn : Nat) : Int)
      rw [hq.gas, hg]; omega
  left := by rw [he.ph, hph]; intro h; omega
/-- the outer frame ends -/
theorem RelP.ended {rd : SV → List Int} {hs : List (List Int)} {L : List Int} {v : V} {m : Mc} {y : PSt} {g : PF} {f : Fm} {g2 st2 : Int} {gn sn : Nat} {o2 : SV} (h : RelP rd hs L v m y [g]) (hf : m.frames[0]? = some f) (hg : g2 = (gn : Int)) : RelP rd hs L v (m.popE f g2 st2 o2) { y with ret := rd o2, phase := 2, status := sn, left := gn } [] where
  vr := h.vr
  og := h.og
  ph := rfl
  pr := h.pr
  or := h.or
  ecb := h.ecb
  enum := h.enum
  etime := h.etime
  eglim := h.eglim
  erand := h.erand
  ecid := h.ecid
  ebfee := h.ebfee
  hs := h.hs
  ret := rfl
  top := rfl
  fr := fun i f g _ hg => by cases hg
  left := fun _ => by
    show gasOf (m.frames.set 0 { f with gas := g2 }) 0 = _
    rw [gasOf_set (lt_of_getElem? hf), if_pos rfl]; exact hg
theorem yleave_nil (y : PSt) (f : PF) (st : Nat) (L : List Int) : yleave y [] f st L = ({ (ylvB f (ylvA y f st L)).2.2.2 with ret := (ylvB f (ylvA y f st L)).2.2.1, phase := 2, status := (ylvB f (ylvA y f st L)).2.1, left := (ylvB f (ylvA y f st L)).1 }, []) := rfl
theorem yleave_snoc (y : PSt) (rest : List PF) (p f : PF) (st : Nat) (L : List Int) : yleave y (rest ++ [p]) f st L = ({ (ylvB f (ylvA y f st L)).2.2.2 with ret := (ylvB f (ylvA y f st L)).2.2.1 }, rest ++ [yback p f (ylvB f (ylvA y f st L)).2.1 (ylvB f (ylvA y f st L)).1 (ylvB f (ylvA y f st L)).2.2.1]) := by
  unfold yleave
  have e : (rest ++ [p])[(rest ++ [p]).length - 1]? = some p := last_get (by simp)
  rw [e]
  simp only [List.length_append, List.length_singleton, Nat.add_sub_cancel]
  rw [List.set_append_right _ _ (Nat.le_refl _)]
  simp
theorem snoc_of {α : Type} {l : List α} {s : Nat} (h : s + 1 = l.length) : ∃ r x, l = r ++ [x] ∧ s = r.length := by
  have hne : l ≠ [] := by intro e; rw [e] at h; simp at h
  refine ⟨l.dropLast, l.getLast hne, (List.dropLast_concat_getLast hne).symm, ?_⟩
  simp; omega
theorem ylvA_st {y : PSt} {f : PF} {st : Nat} {L : List Int} (h : ¬ (ycreates f.kind = true ∧ st = 0)) : ylvA y f st L = (f.gas, st, L, y) := by unfold ylvA; rw [if_neg h]
theorem ylvA_dep {y : PSt} {f : PF} {st : Nat} {L : List Int} (h : ycreates f.kind = true ∧ st = 0) : ylvA y f st L = (if (ydep f L).2 = 0 then ((ydep f L).1, (ydep f L).2, [], if 0 < L.length then ysAccts y (yput y.now.accts { yacct y.now.accts f.self with code := L }) else y) else ((ydep f L).1, (ydep f L).2, L, y)) := by unfold ylvA; rw [if_pos h]
theorem makes_y {k : Int} {n : Nat} (h : k = (n : Int)) : makes k = ycreates n := by
  unfold makes ycreates
  exact al_dd.2 (by omega)
theorem ycut_zero {L : List Int} {n : Nat} (h : n ≤ L.length) : ycut L 0 n = L.take n := by
  refine list_gd (by rw [ycut_len, List.length_take]; omega) fun i hi => ?_
  rw [ycut_len] at hi
  rw [List.getD_eq_getElem?_getD, ycut_get hi, List.getD_eq_getElem?_getD (l := L.take n), List.getElem?_take, if_pos hi, Nat.zero_add, ← List.getD_eq_getElem?_getD]
  rfl
end Go.Proofs.YgvacwGreat
