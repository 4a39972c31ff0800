import Derived.Test.YgvacwGreatEe
import Derived.Test.YgvacwGreatEf
import Derived.Test.YgvacwGreatHo
import Derived.Test.YgvacwGreatNf
namespace Go.Proofs.YgvacwGreat
set_option linter.unusedSimpArgs false
set_option linter.unusedVariables false
/-! what the operations leave, beside yp -/
structure MI (m : Mc) (t : Nat) : Prop where
  ph : m.phase = 1
  top : m.top = (t : Int)
  t6 : t ≤ 6
  fr : ∀ i f, i ≤ t → m.frames[i]? = some f → f.sbase = 64 * (i : Int) ∧ f.sp ≤ 64
theorem RI.mi {scan : List Int → List Int} {v : V} {m : Mc} {t : Nat} {c S : Int} (h : RI scan v m t c S) : MI m t := ⟨h.ph, h.top, h.t6, fun i f hi hf => ⟨(h.fr i f hi hf).sb, (h.fr i f hi hf).sp⟩⟩
theorem Rel.len {w : World} {v : V} {m : Mc} {t : Nat} {y : PSt} {rest : List PF} {g : PF} (h : Rel w v m (y, rest ++ [g])) (hI : MI m t) : t = rest.length := by
  obtain ⟨L, _, hP⟩ := h.ex
  have h1 := hP.top
  have h2 := hI.top
  simp at h1
  omega
theorem last_get {α : Type} {l : List α} {x : α} {t : Nat} (h : t = l.length) : (l ++ [x])[t]? = some x := by rw [h]; simp
/-- the top frame on both sides -/
theorem Rel.top {w : World} {v : V} {m : Mc} {t : Nat} {f : Fm} {y : PSt} {rest : List PF} {g : PF} (h : Rel w v m (y, rest ++ [g])) (hI : MI m t) (hf : m.frames[t]? = some f) : ∃ L, BufX w m.buf L ∧ FrP (rdB w) L v m t f g ∧ RelP (rdB w) (rdH w m.ehash) L v m y (rest ++ [g]) := by
  have hl := h.len hI
  obtain ⟨L, hL, hP⟩ := h.ex
  exact ⟨L, hL, hP.fr t f g hf (last_get hl), hP⟩
theorem Rel.arg [Om] {w : World} {C : Nat} {c : Array Value} {v : V} {B : VB} {m : Mc} {t : Nat} {f : Fm} {y : PSt} {rest : List PF} {g : PF} (h : Rel w v m (y, rest ++ [g])) (hM : MS w C c v B m) (hI : MI m t) (hf : m.frames[t]? = some f) (i : Nat) : yarg g i = wn (m.argW f i) := by
  obtain ⟨L, _, hF, _⟩ := h.top hI hf
  exact hF.arg (hI.fr t f (Nat.le_refl _) hf).1 (hM.ty.frames.2 f (List.mem_of_getElem? hf)).sp.1 i
theorem Rel.settle [Om] {w w' : World} {C : Nat} {c : Array Value} {v : V} {B : VB} {m : Mc} {t : Nat} {f : Fm} {y : PSt} {rest : List PF} {g : PF} (h : Rel w v m (y, rest ++ [g])) (hM : MS w C c v B m) (hI : MI m t) (hf : m.frames[t]? = some f) (h5 : KT 5 w w') (h28 : KT 28 w w')
    {k st : Nat} {gv : Bool} {W : List Int} (hk : (k : Int) ≤ f.sp) (hgv : gv = true → f.sp - k < 64) : Rel w' v (m.settle t f k gv W st) (y, rest ++ [psettle g k gv (wn W) st]) := by
  have hl := h.len hI
  obtain ⟨L, hL, hP⟩ := (h.kt hM h5 h28).ex
  exact ⟨L, hL, hP.settle hl hf hI.ph (fun i f hi hf => (hI.fr i f hi hf).2) (hI.fr t f (Nat.le_refl _) hf).1 (hM.ty.frames.2 f (List.mem_of_getElem? hf)).sp.1 hM.ty.stack.1 hI.t6 hk hgv⟩
theorem yplain_val {ks : List Int → List Int} {y : PSt} {rest : List PF} {g : PF} {o : Int} (hg : ygives o = 1) : yplain ks y rest g o = (yvst y g o (yargs g (ytakes o).toNat), rest ++ [psettle g (ytakes o).toNat true (yval ks y g o (yargs g (ytakes o).toNat)) (1 + immOf o).toNat]) := by
  have h1 : ¬ yisj g o := by
    rintro (h | h)
    · rw [h] at hg; exact absurd hg (by decide)
    · rw [h.1] at hg; exact absurd hg (by decide)
  have h2 : ¬ (128 ≤ o ∧ o ≤ 143) := by
    intro h
    unfold ygives yfam at hg
    repeat (first | omega | split at hg)
  have h3 : ¬ (144 ≤ o ∧ o ≤ 159) := by
    intro h
    unfold ygives yfam at hg
    repeat (first | omega | split at hg)
  have h4 : ¬ ypq g o := by
    rintro (h | h | h)
    · exact h1 h
    · exact h2 h
    · exact h3 h
  unfold yplain
  rw [if_neg (fun h => h.2.1 hg)]
  unfold ypst ypfr ypkept ypnext psettle
  rw [if_neg h4, if_pos hg, if_pos (Or.inr hg), if_neg h1, if_neg h2, if_neg h3, if_pos hg, if_neg h1]
  simp [ypbase]
theorem yplain_eff {ks : List Int → List Int} {y : PSt} {rest : List PF} {g : PF} {o : Int} (hg : ygives o ≠ 1) (hq : ¬ ypq g o) (h85 : o = 85 → (ysstA y g).2.2 ≤ y.now.ref) : yplain ks y rest g o = ((yeff y g o (yargs g (ytakes o).toNat)).1, rest ++ [{ (yeff y g o (yargs g (ytakes o).toNat)).2 with stack := g.stack.take (g.stack.length - (ytakes o).toNat), pc := g.pc + (1 + immOf o).toNat }]) := by
  have h1 : ¬ yisj g o := fun h => hq (Or.inl h)
  have h2 : ¬ (128 ≤ o ∧ o ≤ 143) := fun h => hq (Or.inr (Or.inl h))
  have h3 : ¬ (144 ≤ o ∧ o ≤ 159) := fun h => hq (Or.inr (Or.inr h))
  unfold yplain
  rw [if_neg (fun h => h.2.2 h85)]
  unfold ypst ypfr ypkept ypnext
  rw [if_neg hq, if_neg hg, if_neg (by rintro (h | h); exact hq h; exact hg h), if_neg h1, if_neg h2, if_neg h3, if_neg hg, if_neg h1]
  rfl
theorem yeff_keep (y : PSt) (f : PF) (o : Int) (l : List Nat) : (yeff y f o l).2.stack = f.stack ∧ (yeff y f o l).2.pc = f.pc := by
  have hc : ∀ d src a n, (ycopied f d src a n).stack = f.stack ∧ (ycopied f d src a n).pc = f.pc := by
    intro d src a n; unfold ycopied; split <;> exact ⟨rfl, rfl⟩
  unfold yeff
  repeat' split
  all_goals first | exact hc _ _ _ _ | exact ⟨rfl, rfl⟩
theorem yplain_ef2 {ks : List Int → List Int} {y : PSt} {rest : List PF} {g : PF} {o : Int} (hg : ygives o ≠ 1) (hq : ¬ ypq g o) (h85 : o = 85 → (ysstA y g).2.2 ≤ y.now.ref) : yplain ks y rest g o = ((yeff y g o (yargs g (ytakes o).toNat)).1, rest ++ [psettle (yeff y g o (yargs g (ytakes o).toNat)).2 (ytakes o).toNat false 0 (1 + immOf o).toNat]) := by
  rw [yplain_eff hg hq h85]
  have := yeff_keep y g o (yargs g (ytakes o).toNat)
  unfold psettle
  rw [this.1, this.2]
  simp
theorem yargs_d {g : PF} {k i : Nat} (h : i < k) : (yargs g k).getD i 0 = yarg g i := by
  rw [List.getD_eq_getElem?_getD, yargs_get h]; rfl
end Go.Proofs.YgvacwGreat
