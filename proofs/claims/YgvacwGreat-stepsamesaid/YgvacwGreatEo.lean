import Derived.Test.YgvacwGreatEl
import Derived.Test.YgvacwGreatEi
import Derived.Test.YgvacwGreatNh
namespace Go.Proofs.YgvacwGreat
set_option linter.unusedSimpArgs false
set_option linter.unusedVariables false
/-! memory -/
theorem take_mid {L M : List Int} {o k : Nat} (h : k ≤ o) (ho : o ≤ L.length) : (mid L o M).take k = L.take k := by
  unfold mid
  rw [List.append_assoc, List.take_append_of_le_length (by rw [List.length_take]; omega), List.take_take]
  congr 1; omega
theorem low_mid {L M : List Int} {o a s : Nat} (h : a + s ≤ o) (ho : o ≤ L.length) : ((mid L o M).drop a).take s = (L.drop a).take s := by
  have e : ∀ l : List Int, (l.drop a).take s = (l.take (a + s)).drop a := by
    intro l; rw [List.drop_take]; congr 1; omega
  rw [e, e, take_mid h ho]
theorem ywr_ln (L : List Int) (o : Nat) (M : List Int) : (ywr L o M).length = L.length := by simp [ywr]
theorem getD_ywr {L M : List Int} {o i : Nat} (h : i < L.length) : (ywr L o M).getD i 0 = if o ≤ i ∧ i < o + M.length then M.getD (i - o) 0 else L.getD i 0 := by
  simp [ywr, List.getD_eq_getElem?_getD, h]
theorem getD_sub {L : List Int} {lo n i : Nat} (h : i < n) : ((L.drop lo).take n).getD i 0 = L.getD (lo + i) 0 := by
  rw [List.getD_eq_getElem?_getD, List.getElem?_take, if_pos h, List.getElem?_drop, ← List.getD_eq_getElem?_getD]
theorem top_mid {L M : List Int} {lo n off : Nat} (h : off + M.length ≤ n) (hl : lo + n ≤ L.length) : ((mid L (lo + off) M).drop lo).take n = ywr ((L.drop lo).take n) off M := by
  have hm : (mid L (lo + off) M).length = L.length := mid_len (by omega)
  refine list_gd ?_ fun i hi => ?_
  · rw [ywr_ln]; simp [hm]
  · have hi' : i < n := by simp [hm] at hi; omega
    rw [getD_sub hi', getD_mid (by omega), getD_ywr (by simp; omega), getD_sub hi']
    by_cases h1 : off ≤ i ∧ i < off + M.length
    · rw [if_neg (by omega), if_pos (by omega), if_pos h1]; congr 1; omega
    · rw [if_neg h1]
      by_cases h2 : lo + i < lo + off
      · rw [if_pos h2]
      · rw [if_neg h2, if_neg (by omega)]
theorem base_mono {b : List Int} {t : Nat} (h : ∀ i, i ≤ t → 0 ≤ szOf b i) : ∀ (k i : Nat), i + k ≤ t + 1 → baseOf b i ≤ baseOf b (i + k)
  | 0, i, _ => by simp
  | k + 1, i, hk => by
    have h1 := base_mono h k i (by omega)
    have h2 := h (i + k) (by omega)
    unfold szOf at h2
    rw [show i + (k + 1) = i + k + 1 by omega]
    omega
theorem baseOf_nn {m : Mc} (h : MTy m) (i : Nat) : 0 ≤ baseOf m.base i := by
  unfold baseOf
  cases hx : m.base[i]? with
  | none => simp
  | some x => exact (h.base.2 x (List.mem_of_getElem? hx)).1
/-- the frames' memories lie one above the other -/
structure MB_ (m : Mc) (t a n : Nat) : Prop where
  lo : baseOf m.base t = (a : Int)
  sz : szOf m.base t = (n : Int)
  low : ∀ i, i < t → 0 ≤ baseOf m.base i ∧ 0 ≤ szOf m.base i ∧ baseOf m.base i + szOf m.base i ≤ (a : Int)
  buf : a + n ≤ m.buf.2.1
theorem RI.mbs {scan : List Int → List Int} {v : V} {m : Mc} {t lo n : Nat} {c S : Int} (hI : RI scan v m t c S) (hty : MTy m) (hlo : m.base[t]? = some (lo : Int)) (hn : szOf m.base t = (n : Int)) (hb : lo + n ≤ m.buf.2.1) : MB_ m t lo n := by
  refine ⟨baseOf_some hlo, hn, fun i hi => ⟨baseOf_nn hty i, (hI.bs i (by omega)).1, ?_⟩, hb⟩
  have := base_mono (t := t) (fun i hi => (hI.bs i hi).1) (t - (i + 1)) (i + 1) (by omega)
  rw [show i + 1 + (t - (i + 1)) = t by omega, baseOf_some hlo] at this
  unfold szOf; omega
section
variable [Om] {w w' : World} {C : Nat} {c : Array Value} {v : V} {B B' : VB} {m : Mc} {t lo n off : Nat} {f : Fm} {y : PSt} {rest : List PF} {g : PF} {L M : List Int}
end
section
variable {w w' : World} {C : Nat} {c : Array Value} {v : V} {B B' : VB} {m : Mc} {t lo n off : Nat} {f : Fm} {y : PSt} {rest : List PF} {g : PF} {L M : List Int}
theorem RelP.write {rd : SV → List Int} {hs : List (List Int)} (h : RelP rd hs L v m y (rest ++ [g])) (hMB : MB_ m t lo n) (ht : t = rest.length) (hI : MI m t) (hf : m.frames[t]? = some f) (hL : m.buf.2.1 ≤ L.length) (hoff : off + M.length ≤ n) : RelP rd hs (mid L (lo + off) M) v m y (rest ++ [ywrite g off M]) := by
  have hg := h.fr t f g hf (last_get ht)
  have hb := hMB.buf
  refine h.top_ (m' := m) (y' := y) ht hf hI.ph (fun i f hi hf => (hI.fr i f (by omega) hf).2) (f' := f) (stk := m.stack) (r' := m.ret) (bf := m.buf) (bs := m.base) (by rw [set_same hf]) (fun _ _ => rfl) (fun i hi => ?_) ?_ h.ret rfl
  · have := hMB.low i hi
    exact low_mid (by omega) (by omega)
  · refine { hg with mem := ?_ }
    show ywr g.mem off M = _
    rw [hg.mem, hMB.lo, hMB.sz]
    simp only [Int.toNat_natCast]
    rw [top_mid hoff (by omega)]
end
section
variable [Om] {w w' : World} {C : Nat} {c : Array Value} {v : V} {B B' : VB} {m : Mc} {t lo n off : Nat} {f : Fm} {y : PSt} {rest : List PF} {g : PF} {L M : List Int}
theorem Rel.write (hRP : RelP (rdB w) (rdH w m.ehash) L v m y (rest ++ [g])) (hM : MS w C c v B m) (hS : MStep w w' C B m B' m) (hBX : BufX w m.buf L) (hMB : MB_ m t lo n) (ht : t = rest.length) (hI : MI m t) (hf : m.frames[t]? = some f) (hoff : off + M.length ≤ n) (hBX' : BufX w' m.buf (mid L (lo + off) M)) : Rel w' v m (y, rest ++ [ywrite g off M]) := by
  have hle : m.buf.2.1 ≤ L.length := by
    rcases hBX with ⟨h1, h2⟩ | ⟨b, h1, h2, h3, h4⟩
    · rw [h1]; exact Nat.zero_le _
    · exact h4
  refine ⟨_, hBX', ?_⟩
  rw [hM.hash.rdk (MStep.k28 hM hS)]
  exact (hRP.write hMB ht hI hf hle hoff).rd (MS.agr hM hS)
end
section
variable {w w' : World} {C : Nat} {c : Array Value} {v : V} {B B' : VB} {m : Mc} {t lo n off : Nat} {f : Fm} {y : PSt} {rest : List PF} {g : PF} {L M : List Int}
theorem Rel.mem_cut (hF : FrP (rdB w) L v m t f g) (hMB : MB_ m t lo n) : g.mem = (L.drop lo).take n := by
  rw [hF.mem, hMB.lo, hMB.sz]; simp only [Int.toNat_natCast]
end
section
variable [Om] {w w' : World} {C : Nat} {c : Array Value} {v : V} {B B' : VB} {m : Mc} {t lo n off : Nat} {f : Fm} {y : PSt} {rest : List PF} {g : PF} {L M : List Int}
end
end Go.Proofs.YgvacwGreat
