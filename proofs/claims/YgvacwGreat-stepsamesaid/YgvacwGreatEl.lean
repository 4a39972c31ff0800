import Derived.Test.YgvacwGreatEk
import Derived.Test.YgvacwGreatNf
import Derived.Test.YgvacwGreatJp
namespace Go.Proofs.YgvacwGreat
set_option linter.unusedSimpArgs false
set_option linter.unusedVariables false
section
variable [Om] {w w' : World} {C : Nat} {c : Array Value} {v : V} {B : VB} {m : Mc} {t : Nat} {f : Fm} {y : PSt} {rest : List PF} {g : PF} {o n kI st : Int} {k : Nat} {W : List Int}
/-- a word is laid -/
theorem Rel.fin_val (hRl : Rel w v m (y, rest ++ [g])) (hM : MS w C c v B m) (hI : MI m t) (hf : m.frames[t]? = some f) (h5 : KT 5 w w') (h28 : KT 28 w w') (ho : o = n) (hg : ygives n = 1) (hk : (ytakes n).toNat = k) (hkI : kI = (k : Int)) (hst : st = 1 + immOf n) (him : 0 ≤ immOf n)
    (hv : yvst y g n (yargs g k) = y) (hW : wn W = yval khash y g n (yargs g k)) (hks : kI ≤ f.sp) (hlt : f.sp - kI < 64) : Rel w' v (m.settle t f kI true W st) (yplain khash y rest g o) := by
  subst ho
  rw [yplain_val hg, hk, hv, ← hW]
  have := hRl.settle hM hI hf h5 h28 (k := k) (st := (1 + immOf o).toNat) (gv := true) (W := W) (by omega) (fun _ => by omega)
  rw [hkI, hst]
  rw [show (((1 + immOf o).toNat : Nat) : Int) = 1 + immOf o by omega] at this
  exact this
end
section
variable {w w' : World} {C : Nat} {c : Array Value} {v : V} {B : VB} {m : Mc} {t : Nat} {f : Fm} {y : PSt} {rest : List PF} {g : PF} {o n kI st : Int} {k : Nat} {W : List Int}
theorem yval_alu {ks : List Int → List Int} (h : n ≤ 31) (l : List Nat) : yval ks y g n l = yalu n (l.getD 0 0) (l.getD 1 0) (l.getD 2 0) := by
  unfold yval
  repeat rw [if_neg (by omega)]
end
section
variable [Om] {w w' : World} {C : Nat} {c : Array Value} {v : V} {B : VB} {m : Mc} {t : Nat} {f : Fm} {y : PSt} {rest : List PF} {g : PF} {o n kI st : Int} {k : Nat} {W : List Int}
end
section
variable {w w' : World} {C : Nat} {c : Array Value} {v : V} {B : VB} {m : Mc} {t : Nat} {f : Fm} {y : PSt} {rest : List PF} {g : PF} {o n kI st : Int} {k : Nat} {W : List Int}
theorem yvst_q (h : ¬ (n = 49 ∨ n = 59 ∨ n = 63)) (h2 : n ≠ 84) (l : List Nat) : yvst y g n l = y := by
  unfold yvst; rw [if_neg h, if_neg h2]
end
section
variable [Om] {w w' : World} {C : Nat} {c : Array Value} {v : V} {B : VB} {m : Mc} {t : Nat} {f : Fm} {y : PSt} {rest : List PF} {g : PF} {o n kI st : Int} {k : Nat} {W : List Int}
theorem Rel.fin_alu2 (hRl : Rel w v m (y, rest ++ [g])) (hM : MS w C c v B m) (hI : MI m t) (hf : m.frames[t]? = some f) (h5 : KT 5 w w') (h28 : KT 28 w w') (ho : o = n) (hn : n ≤ 31) (hg : ygives n = 1) (hk : (ytakes n).toNat = 2)
    (hW : ∀ z, wn W = yalu n (wn (m.argW f 0)) (wn (m.argW f 1)) z) (hks : 2 ≤ f.sp) (hlt : f.sp - 2 < 64) : Rel w' v (m.settle t f 2 true W 1) (yplain khash y rest g o) := by
  have hi : immOf n = 0 := by unfold immOf; rw [if_neg (by omega)]
  refine hRl.fin_val hM hI hf h5 h28 ho hg hk (kI := 2) (st := 1) rfl (by rw [hi]; rfl) (by omega) (yvst_q (by omega) (by omega) _) ?_ hks hlt
  rw [yval_alu hn, yargs_d (by decide), yargs_d (by decide), hRl.arg hM hI hf, hRl.arg hM hI hf]
  exact hW _
theorem Rel.fin_alu1 (hRl : Rel w v m (y, rest ++ [g])) (hM : MS w C c v B m) (hI : MI m t) (hf : m.frames[t]? = some f) (h5 : KT 5 w w') (h28 : KT 28 w w') (ho : o = n) (hn : n ≤ 31) (hg : ygives n = 1) (hk : (ytakes n).toNat = 1)
    (hW : ∀ z x, wn W = yalu n (wn (m.argW f 0)) z x) (hks : 1 ≤ f.sp) (hlt : f.sp - 1 < 64) : Rel w' v (m.settle t f 1 true W 1) (yplain khash y rest g o) := by
  have hi : immOf n = 0 := by unfold immOf; rw [if_neg (by omega)]
  refine hRl.fin_val hM hI hf h5 h28 ho hg hk (kI := 1) (st := 1) rfl (by rw [hi]; rfl) (by omega) (yvst_q (by omega) (by omega) _) ?_ hks hlt
  rw [yval_alu hn, yargs_d (by decide), hRl.arg hM hI hf]
  exact hW _ _
theorem Rel.fin_alu3 (hRl : Rel w v m (y, rest ++ [g])) (hM : MS w C c v B m) (hI : MI m t) (hf : m.frames[t]? = some f) (h5 : KT 5 w w') (h28 : KT 28 w w') (ho : o = n) (hn : n ≤ 31) (hg : ygives n = 1) (hk : (ytakes n).toNat = 3)
    (hW : wn W = yalu n (wn (m.argW f 0)) (wn (m.argW f 1)) (wn (m.argW f 2))) (hks : 3 ≤ f.sp) (hlt : f.sp - 3 < 64) : Rel w' v (m.settle t f 3 true W 1) (yplain khash y rest g o) := by
  have hi : immOf n = 0 := by unfold immOf; rw [if_neg (by omega)]
  refine hRl.fin_val hM hI hf h5 h28 ho hg hk (kI := 3) (st := 1) rfl (by rw [hi]; rfl) (by omega) (yvst_q (by omega) (by omega) _) ?_ hks hlt
  rw [yval_alu hn, yargs_d (by decide), yargs_d (by decide), yargs_d (by decide), hRl.arg hM hI hf, hRl.arg hM hI hf, hRl.arg hM hI hf]
  exact hW
/-- nothing is laid, and nothing else done -/
theorem Rel.fin_eff (hRl : Rel w v m (y, rest ++ [g])) (hM : MS w C c v B m) (hI : MI m t) (hf : m.frames[t]? = some f) (h5 : KT 5 w w') (h28 : KT 28 w w') (ho : o = n) (hg : ygives n ≠ 1) (hq : ¬ ypq g n) (h85 : n ≠ 85) (hk : (ytakes n).toNat = k) (hkI : kI = (k : Int)) (hst : st = 1) (him : immOf n = 0)
    (he : yeff y g n (yargs g k) = (y, g)) (hks : kI ≤ f.sp) : Rel w' v (m.settle t f kI false W st) (yplain khash y rest g o) := by
  subst ho
  rw [yplain_ef2 hg hq (fun h => absurd h h85), hk, he]
  have := hRl.settle hM hI hf h5 h28 (k := k) (st := 1) (gv := false) (W := W) (by omega) (fun h => by cases h)
  rw [hkI, hst]
  simp only [psettle] at this ⊢
  rw [him]
  exact this
end
theorem wn_ofM {x : Int} (h : 0 ≤ x) : wn (ofV (x % 115792089237316195423570985008687907853269984665640564039457584007913129639936)) = x.toNat % 115792089237316195423570985008687907853269984665640564039457584007913129639936 := by
  rw [wn_ofV (by omega) (by omega)]; omega
theorem alu_add {W X : List Int} (hW : Wd W) (hX : Wd X) (z : Nat) : wn (ofV ((wv W + wv X) % 115792089237316195423570985008687907853269984665640564039457584007913129639936)) = yalu 1 (wn W) (wn X) z := by
  have h1 := wn_int hW; have h2 := wn_int hX
  rw [wn_ofM (by omega)]
  show _ = (wn W + wn X) % _
  congr 1; omega
theorem alu_mul {W X : List Int} (hW : Wd W) (hX : Wd X) (z : Nat) : wn (ofV (wv W * wv X % 115792089237316195423570985008687907853269984665640564039457584007913129639936)) = yalu 2 (wn W) (wn X) z := by
  have h1 := wn_int hW; have h2 := wn_int hX
  rw [wn_ofM (by rw [← h1, ← h2]; exact Int.mul_nonneg (Int.natCast_nonneg _) (Int.natCast_nonneg _))]
  show _ = wn W * wn X % _
  rw [← h1, ← h2, ← Int.natCast_mul, Int.toNat_natCast]
theorem alu_sub {W X : List Int} (hW : Wd W) (hX : Wd X) (z : Nat) : wn (ofV ((wv W - wv X) % 115792089237316195423570985008687907853269984665640564039457584007913129639936)) = yalu 3 (wn W) (wn X) z := by
  have h1 := wn_int hW; have h2 := wn_int hX
  have h3 := wn_lt hW; have h4 := wn_lt hX
  rw [wn_ofV (by omega) (by omega)]
  show _ = (wn W + yneg (wn X)) % _
  unfold yneg
  omega
theorem wn_flag (q : Bool) : wn (flagW q) = if q = true then 1 else 0 := by cases q <;> rfl
theorem lt_wn {W X : List Int} (hW : Wd W) (hX : Wd X) : decide (wv W < wv X) = decide (wn W < wn X) := by
  have h1 := wn_int hW; have h2 := wn_int hX
  exact al_dd.2 (by omega)
theorem z_wn {W : List Int} (hW : Wd W) : (wv W = 0) ↔ (wn W = 0) := by
  have h1 := wn_int hW
  omega
theorem wn_one {x : Int} (h : 0 ≤ x ∧ x ≤ 18446744073709551615) : wn [x, 0, 0, 0] = x.toNat := by
  rw [wn_limbs h (by decide) (by decide) (by decide)]; omega
end Go.Proofs.YgvacwGreat
