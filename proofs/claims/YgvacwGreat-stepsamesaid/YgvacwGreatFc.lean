import Derived.Test.YgvacwGreatFb
import Derived.Test.YgvacwGreatEj
import Derived.Test.YgvacwGreatEh
import Derived.Test.YgvacwGreatGn
import Derived.Test.YgvacwGreatNe
namespace Go.Proofs.YgvacwGreat
set_option linter.unusedSimpArgs false
set_option linter.unusedVariables false
/-! costs and refusals on both sides -/
def yb0 (o : Int) : Nat :=
  if (96 ≤ o ∧ o ≤ 159) ∨ (16 ≤ o ∧ o ≤ 29) ∨ o = 1 ∨ o = 3 ∨ o = 53 ∨ (81 ≤ o ∧ o ≤ 83) then 3
  else if o = 2 ∨ (4 ≤ o ∧ o ≤ 7) ∨ o = 11 ∨ o = 71 then 5 else if o = 8 ∨ o = 9 ∨ o = 86 then 8 else if o = 87 then 10 else if o = 91 then 1 else if o = 64 then 20
  else if o = 0 ∨ o = 243 ∨ o = 253 then 0 else if o = 92 ∨ o = 93 then 100 else 2
abbrev isDyn (o : Int) : Prop := o = 10 ∨ o = 32 ∨ o = 55 ∨ o = 57 ∨ o = 62 ∨ o = 94 ∨ o = 49 ∨ o = 59 ∨ o = 63 ∨ o = 60 ∨ (160 ≤ o ∧ o ≤ 164) ∨ o = 84 ∨ o = 85 ∨ o = 240 ∨ o = 245 ∨ o = 244 ∨ o = 250 ∨ o = 255 ∨ o = 241 ∨ o = 242
theorem ybare_st {y : PSt} {f : PF} {o : Int} (h : ¬ isDyn o) (hk : yfam o ≠ 16) : ybare y f o = yb0 o := by
  unfold isDyn at h
  unfold ybare yb0
  by_cases c0 : ((96 ≤ o ∧ o ≤ 159) ∨ (16 ≤ o ∧ o ≤ 29) ∨ o = 1 ∨ o = 3 ∨ o = 53 ∨ (81 ≤ o ∧ o ≤ 83))
  · rw [if_pos c0, if_pos c0]
  rw [if_neg c0, if_neg c0]
  by_cases c1 : (o = 2 ∨ (4 ≤ o ∧ o ≤ 7) ∨ o = 11 ∨ o = 71)
  · rw [if_pos c1, if_pos c1]
  rw [if_neg c1, if_neg c1]
  by_cases c2 : (o = 8 ∨ o = 9 ∨ o = 86)
  · rw [if_pos c2, if_pos c2]
  rw [if_neg c2, if_neg c2]
  by_cases c3 : o = 87
  · rw [if_pos c3, if_pos c3]
  rw [if_neg c3, if_neg c3]
  by_cases c4 : o = 91
  · rw [if_pos c4, if_pos c4]
  rw [if_neg c4, if_neg c4]
  by_cases c5 : o = 64
  · rw [if_pos c5, if_pos c5]
  rw [if_neg c5, if_neg c5]
  by_cases c6 : (o = 0 ∨ o = 243 ∨ o = 253)
  · rw [if_pos c6, if_pos c6]
  rw [if_neg c6, if_neg c6]
  rw [if_neg (by omega : ¬ o = 10), if_neg (by omega : ¬ o = 32), if_neg (by omega : ¬ (o = 55 ∨ o = 57 ∨ o = 62 ∨ o = 94)), if_neg (by omega : ¬ (o = 49 ∨ o = 59 ∨ o = 63)), if_neg (by omega : ¬ o = 60), if_neg (by omega : ¬ (160 ≤ o ∧ o ≤ 164)), if_neg (by omega : ¬ o = 84), if_neg (by omega : ¬ o = 85)]
  by_cases c9 : o = 92 ∨ o = 93
  · rw [if_pos c9, if_pos c9]
  rw [if_neg c9, if_neg c9, if_neg (by omega : ¬ o = 255), if_neg hk]
theorem fam16n {o : Int} (h : ¬ isDyn o) : yfam o ≠ 16 := by
  unfold isDyn at h
  unfold yfam
  repeat (first | omega | split)
def tabOKx (n : Nat) : Bool := decide ((infoW n).1 = ytakes n ∧ (infoW n).2.1 = ygives n ∧ (infoW n).2.2.2 = yknown n ∧ (yknown n = true → ¬ isDyn (n : Int) → (infoW n).2.2.1 = (yb0 n : Int)))
theorem tab_all : (List.range 256).all tabOKx = true := by decide +kernel
theorem tab_at {o : Int} (h : 0 ≤ o ∧ o ≤ 255) : (infoW o).1 = ytakes o ∧ (infoW o).2.1 = ygives o ∧ (infoW o).2.2.2 = yknown o ∧ (yknown o = true → ¬ isDyn o → (infoW o).2.2.1 = (yb0 o : Int)) := by
  have h1 := List.all_eq_true.1 tab_all o.toNat (List.mem_range.2 (by omega))
  have h2 := of_decide_eq_true h1
  rw [Int.toNat_of_nonneg h.1] at h2
  exact h2
theorem dyn0 {v : V} {m : Mc} {f : Fm} {o : Int} (h : ¬ isDyn o) : dynW v m f o = 0 := by
  unfold isDyn at h
  unfold dynW
  repeat rw [if_neg (by omega)]
theorem reach_ok {W X : List Int} (hW : Wd W) (hX : Wd X) (h : (reachW W X).2 = true) : (reachW W X).1 = (ywords (yend (wn W) (wn X)) : Int) := by
  have h1 := wn_int hW; have h2 := wn_int hX
  unfold reachW at h ⊢
  unfold ywords yend
  split at h
  · rename_i h0; have hz : wn X = 0 := by omega
    rw [if_pos h0, if_pos hz]; rfl
  · rename_i h0
    have hz : ¬ wn X = 0 := by omega
    rw [if_neg h0, if_neg hz]
    split at h
    · rename_i h3; rw [if_pos h3]; simp only; omega
    · cases h
theorem reach_no {W X : List Int} (hW : Wd W) (hX : Wd X) (h : (reachW W X).2 = false) : 717280 < yend (wn W) (wn X) := by
  have h1 := wn_int hW; have h2 := wn_int hX
  unfold reachW at h
  unfold yend
  split at h
  · cases h
  · rename_i h0
    rw [if_neg (by omega)]
    split at h
    · cases h
    · omega
theorem ywords_max (a b : Nat) : ywords (max a b) = max (ywords a) (ywords b) := by unfold ywords; omega
section
variable {m : Mc} {f : Fm} {g : PF}
theorem reaches_ok (hA : ∀ i : Nat, yarg g i = wn (m.argW f i)) (hty : MTy m) {o : Int} (h : (reachesW m f o).2 = true) : (reachesW m f o).1 = (ywords (yreach g o) : Int) := by
  have a := fun i => argW_wd hty f i
  have w32 : wn [32, 0, 0, 0] = 32 := rfl
  have w1 : wn [1, 0, 0, 0] = 1 := rfl
  have e0 : yarg g 0 = wn (m.argW f 0) := hA 0
  have e1 : yarg g 1 = wn (m.argW f 1) := hA 1
  have e2 : yarg g 2 = wn (m.argW f 2) := hA 2
  have e3 : yarg g 3 = wn (m.argW f 3) := hA 3
  have e4 : yarg g 4 = wn (m.argW f 4) := hA 4
  have e5 : yarg g 5 = wn (m.argW f 5) := hA 5
  have e6 : yarg g 6 = wn (m.argW f 6) := hA 6
  unfold reachesW at h ⊢
  unfold yreach
  rw [e0, e1, e2, e3, e4, e5, e6]
  split
  · rename_i hc; rw [if_pos hc] at h; exact reach_ok (a 0) (a 1) h
  rename_i hc; rw [if_neg hc] at h; split
  · rename_i hc; rw [if_pos hc] at h; exact reach_ok (a 0) (a 2) h
  rename_i hc; rw [if_neg hc] at h; split
  · rename_i hc; rw [if_pos hc] at h; exact reach_ok (a 1) (a 3) h
  rename_i hc; rw [if_neg hc] at h; split
  · rename_i hc; rw [if_pos hc] at h; have := reach_ok (a 0) Wd32 h; rw [w32] at this; exact this
  rename_i hc; rw [if_neg hc] at h; split
  · rename_i hc; rw [if_pos hc] at h; have := reach_ok (a 0) Wd1 h; rw [w1] at this; exact this
  rename_i hc; rw [if_neg hc] at h; split
  · rename_i hc; rw [if_pos hc] at h
    have h' := (Bool.and_eq_true _ _).mp h
    rw [ywords_max]; simp only [reach_ok (a 0) (a 2) h'.1, reach_ok (a 1) (a 2) h'.2]; omega
  rename_i hc; rw [if_neg hc] at h; split
  · rename_i hc; rw [if_pos hc] at h; exact reach_ok (a 1) (a 2) h
  rename_i hc; rw [if_neg hc] at h; split
  · rename_i hc; rw [if_pos hc] at h
    have h' := (Bool.and_eq_true _ _).mp h
    rw [ywords_max]; simp only [reach_ok (a 3) (a 4) h'.1, reach_ok (a 5) (a 6) h'.2]; omega
  rename_i hc; rw [if_neg hc] at h; split
  · rename_i hc; rw [if_pos hc] at h
    have h' := (Bool.and_eq_true _ _).mp h
    rw [ywords_max]; simp only [reach_ok (a 2) (a 3) h'.1, reach_ok (a 4) (a 5) h'.2]; omega
  rfl
theorem reaches_no (hA : ∀ i : Nat, yarg g i = wn (m.argW f i)) (hty : MTy m) {o : Int} (h : (reachesW m f o).2 = false) : 717280 < yreach g o := by
  have a := fun i => argW_wd hty f i
  have w32 : wn [32, 0, 0, 0] = 32 := rfl
  have w1 : wn [1, 0, 0, 0] = 1 := rfl
  have e0 : yarg g 0 = wn (m.argW f 0) := hA 0
  have e1 : yarg g 1 = wn (m.argW f 1) := hA 1
  have e2 : yarg g 2 = wn (m.argW f 2) := hA 2
  have e3 : yarg g 3 = wn (m.argW f 3) := hA 3
  have e4 : yarg g 4 = wn (m.argW f 4) := hA 4
  have e5 : yarg g 5 = wn (m.argW f 5) := hA 5
  have e6 : yarg g 6 = wn (m.argW f 6) := hA 6
  have two : ∀ {W X Y Z : List Int}, Wd W → Wd X → Wd Y → Wd Z → ((reachW W X).2 && (reachW Y Z).2) = false → 717280 < max (yend (wn W) (wn X)) (yend (wn Y) (wn Z)) := by
    intro W X Y Z hW hX hY hZ hh
    rcases (Bool.and_eq_false_iff).1 hh with h1 | h1
    · have := reach_no hW hX h1; omega
    · have := reach_no hY hZ h1; omega
  unfold reachesW at h
  unfold yreach
  rw [e0, e1, e2, e3, e4, e5, e6]
  split
  · rename_i hc; rw [if_pos hc] at h; exact reach_no (a 0) (a 1) h
  rename_i hc; rw [if_neg hc] at h; split
  · rename_i hc; rw [if_pos hc] at h; exact reach_no (a 0) (a 2) h
  rename_i hc; rw [if_neg hc] at h; split
  · rename_i hc; rw [if_pos hc] at h; exact reach_no (a 1) (a 3) h
  rename_i hc; rw [if_neg hc] at h; split
  · rename_i hc; rw [if_pos hc] at h; have := reach_no (a 0) Wd32 h; rw [w32] at this; exact this
  rename_i hc; rw [if_neg hc] at h; split
  · rename_i hc; rw [if_pos hc] at h; have := reach_no (a 0) Wd1 h; rw [w1] at this; exact this
  rename_i hc; rw [if_neg hc] at h; split
  · rename_i hc; rw [if_pos hc] at h; exact two (a 0) (a 2) (a 1) (a 2) h
  rename_i hc; rw [if_neg hc] at h; split
  · rename_i hc; rw [if_pos hc] at h; exact reach_no (a 1) (a 2) h
  rename_i hc; rw [if_neg hc] at h; split
  · rename_i hc; rw [if_pos hc] at h; exact two (a 3) (a 4) (a 5) (a 6) h
  rename_i hc; rw [if_neg hc] at h; split
  · rename_i hc; rw [if_pos hc] at h; exact two (a 2) (a 3) (a 4) (a 5) h
  rename_i hc; rw [if_neg hc] at h; cases h
end
theorem ymem_int (n : Nat) : (ymem n : Int) = memCost n := by unfold ymem memCost; rw [Int.natCast_add, Int.natCast_ediv, Int.natCast_mul, Int.natCast_mul]; rfl
theorem ymem_mono {a b : Nat} (h : a ≤ b) : ymem a ≤ ymem b := by
  unfold ymem
  have h1 : a * a ≤ b * b := Nat.mul_le_mul h h
  omega
def yrefP (y : PSt) (f : PF) (o : Int) : Nat :=
  if f.statY = true ∧ ywrites f o = true then 7 else if (o = 240 ∨ o = 245) ∧ 512 < yarg f 2 then 9 else if o = 62 ∧ y.ret.length < yarg f 1 + yarg f 2 then 8
  else if f.gas < ycost y f o then 2 else if o = 85 ∧ f.gas ≤ 2300 then 2 else if o = 86 ∧ ydest f.code (yarg f 0) = false then 6
  else if o = 87 ∧ yarg f 1 ≠ 0 ∧ ydest f.code (yarg f 0) = false then 6 else 0
theorem yref_p {y : PSt} {f : PF} {o : Int} (h1 : yknown o = true) (h2 : ¬ (f.stack.length : Int) < ytakes o) (h3 : ¬ 64 < (f.stack.length : Int) - ytakes o + ygives o) : yrefuse y f o = yrefP y f o := by
  unfold yrefuse yrefP
  rw [if_neg (by rw [h1]; decide), if_neg h2, if_neg h3]
section
variable [Om] {w : World} {C : Nat} {c : Array Value} {v : V} {B : VB} {m : Mc} {t : Nat} {f : Fm} {y : PSt} {rest : List PF} {g : PF} {hs : List (List Int)} {L : List Int}
end
section
variable {w : World} {C : Nat} {c : Array Value} {v : V} {B : VB} {m : Mc} {t : Nat} {f : Fm} {y : PSt} {rest : List PF} {g : PF} {hs : List (List Int)} {L : List Int}
theorem acc_eq {rd : SV → List Int} {p : PW} (h : VR rd v.sx p) (hv : VInv v) (A : List Int) : accW v A = (yaccess p.warmA A : Int) := by
  unfold accW yaccess
  rw [h.warmV hv]
  by_cases hA : A ∈ p.warmA
  · rw [if_pos hA, al_et hA, if_pos rfl]; rfl
  · rw [if_neg hA, al_ef hA, if_neg (by decide)]; rfl
end
section
variable [Om] {w : World} {C : Nat} {c : Array Value} {v : V} {B : VB} {m : Mc} {t : Nat} {f : Fm} {y : PSt} {rest : List PF} {g : PF} {hs : List (List Int)} {L : List Int}
theorem bare_eq (hRP : RelP (rdB w) hs L v m y (rest ++ [g])) (hFP : FrP (rdB w) L v m t f g) (hM : MS w C c v B m) (hv : VInv v) (hA : ∀ i : Nat, yarg g i = wn (m.argW f i)) {o : Int} (ho : 0 ≤ o ∧ o ≤ 255) (hk : yknown o = true) : (ybare y g o : Int) = (infoW o).2.2.1 + dynW v m f o := by
  by_cases hd : isDyn o
  · have e0 : yarg g 0 = wn (m.argW f 0) := hA 0
    have e1 : yarg g 1 = wn (m.argW f 1) := hA 1
    have e2 : yarg g 2 = wn (m.argW f 2) := hA 2
    have e3 : yarg g 3 = wn (m.argW f 3) := hA 3
    have i0 := wn_int (argW_wd hM.ty f 0)
    have i1 := wn_int (argW_wd hM.ty f 1)
    have i2 := wn_int (argW_wd hM.ty f 2)
    have i3 := wn_int (argW_wd hM.ty f 3)
    have y0 := addrW_y (argW_wd hM.ty f 0)
    have y1 := addrW_y (argW_wd hM.ty f 1)
    have a0 := acc_eq hRP.vr hv (addrW (m.argW f 0))
    have a1 := acc_eq hRP.vr hv (addrW (m.argW f 1))
    rcases hd with h | h | h | h | h | h | h | h | h | h | h | h | h | h | h | h | h | h | h | h
    · subst h; show (yexp (yarg g 1) : Int) = 10 + 50 * (sz (wn (m.argW f 1)) : Int); unfold yexp; rw [e1]; omega
    · subst h; show ((30 + 6 * ywords (yarg g 1) : Nat) : Int) = 30 + 6 * ((wv (m.argW f 1) + 31) / 32); unfold ywords; rw [e1]; omega
    · subst h; show ((3 + ycopy (yarg g 2) : Nat) : Int) = 3 + 3 * ((wv (m.argW f 2) + 31) / 32); unfold ycopy ywords; rw [e2]; omega
    · subst h; show ((3 + ycopy (yarg g 2) : Nat) : Int) = 3 + 3 * ((wv (m.argW f 2) + 31) / 32); unfold ycopy ywords; rw [e2]; omega
    · subst h; show ((3 + ycopy (yarg g 2) : Nat) : Int) = 3 + 3 * ((wv (m.argW f 2) + 31) / 32); unfold ycopy ywords; rw [e2]; omega
    · subst h; show ((3 + ycopy (yarg g 2) : Nat) : Int) = 3 + 3 * ((wv (m.argW f 2) + 31) / 32); unfold ycopy ywords; rw [e2]; omega
    · subst h; show (yaccess y.now.warmA (yaddr (yarg g 0)) : Int) = 0 + accW v (addrW (m.argW f 0)); rw [a0, e0, y0]; omega
    · subst h; show (yaccess y.now.warmA (yaddr (yarg g 0)) : Int) = 0 + accW v (addrW (m.argW f 0)); rw [a0, e0, y0]; omega
    · subst h; show (yaccess y.now.warmA (yaddr (yarg g 0)) : Int) = 0 + accW v (addrW (m.argW f 0)); rw [a0, e0, y0]; omega
    · subst h; show ((yaccess y.now.warmA (yaddr (yarg g 0)) + ycopy (yarg g 3) : Nat) : Int) = 0 + (accW v (addrW (m.argW f 0)) + 3 * ((wv (m.argW f 3) + 31) / 32)); unfold ycopy ywords; rw [a0, e0, e3, y0]; omega
    · have hi : (infoW o).2.2.1 = 375 * (o - 160 + 1) := by unfold infoW; rw [if_neg (by omega), if_neg (by omega), if_neg (by omega), if_pos h]
      have hb : ybare y g o = (375 + 375 * (o - 160)).toNat + 8 * yarg g 1 := by unfold ybare; (repeat rw [if_neg (by omega)]); rw [if_pos h]
      have hd : dynW v m f o = 8 * wv (m.argW f 1) := by unfold dynW; (repeat rw [if_neg (by omega)]); rw [if_pos h]
      rw [hi, hb, hd, e1]; omega
    · subst h
      show ((if (g.self, yarg g 0) ∈ y.now.warmS then 100 else 2100 : Nat) : Int) = 0 + (if v.isWarmS f.self (m.argW f 0) = true then 100 else 2100)
      rw [(hRP.vr.slotV hv f.self (argW_wd hM.ty f 0)).2, e0, hFP.self]
      by_cases hh : (g.self, wn (m.argW f 0)) ∈ y.now.warmS
      · rw [if_pos hh, al_et hh, if_pos rfl]; rfl
      · rw [if_neg hh, al_ef hh, if_neg (by decide)]; rfl
    · subst h
      show ((ysstA y g).1 : Int) = 0 + (sstoreW (v.sorig f.self (m.argW f 0)) (v.sval f.self (m.argW f 0)) (m.argW f 1) (!v.isWarmS f.self (m.argW f 0))).1
      rw [sstA_eq hRP hFP hM hv e0 e1]; simp only; omega
    · subst h; show ((32000 + 2 * ywords (yarg g 2) : Nat) : Int) = 32000 + 2 * ((wv (m.argW f 2) + 31) / 32); unfold ywords; rw [e2]; omega
    · subst h; show ((32000 + 8 * ywords (yarg g 2) : Nat) : Int) = 32000 + 8 * ((wv (m.argW f 2) + 31) / 32); unfold ywords; rw [e2]; omega
    · subst h
      show ((yaccess y.now.warmA (yaddr (yarg g 1)) + (if ((244 : Int) = 241 ∨ (244 : Int) = 242) ∧ yarg g 2 ≠ 0 then 9000 else 0) + (if (244 : Int) = 241 ∧ yarg g 2 ≠ 0 ∧ yempty (yacct y.now.accts (yaddr (yarg g 1))) = true then 25000 else 0) : Nat) : Int) = 0 + accW v (addrW (m.argW f 1))
      rw [if_neg (by omega), if_neg (by omega), a1, e1, y1]; omega
    · subst h
      show ((yaccess y.now.warmA (yaddr (yarg g 1)) + (if ((250 : Int) = 241 ∨ (250 : Int) = 242) ∧ yarg g 2 ≠ 0 then 9000 else 0) + (if (250 : Int) = 241 ∧ yarg g 2 ≠ 0 ∧ yempty (yacct y.now.accts (yaddr (yarg g 1))) = true then 25000 else 0) : Nat) : Int) = 0 + accW v (addrW (m.argW f 1))
      rw [if_neg (by omega), if_neg (by omega), a1, e1, y1]; omega
    · subst h
      show (ydestroy y g : Int) = 5000 + destroyW v m f
      unfold ydestroy destroyW
      have hb := hRP.vr.balV hv f.self
      have hbw := wn_int (bal_wd hM.vs.ty f.self)
      rw [hRP.vr.warmV hv, hRP.vr.emptyV hM.vs hv, e0, ← y0, ← hFP.self, ← hb]
      generalize yempty (yacct y.now.accts (addrW (m.argW f 0))) = q
      by_cases h1 : addrW (m.argW f 0) ∈ y.now.warmA
      · rw [if_pos h1, al_et h1, if_pos (rfl : true = true)]
        by_cases h2 : q = true ∧ wn (v.bal f.self) ≠ 0
        · rw [if_pos h2, if_pos ⟨by omega, h2.1⟩]; rfl
        · rw [if_neg h2, if_neg (fun h3 => h2 ⟨h3.2, by omega⟩)]; rfl
      · rw [if_neg h1, al_ef h1, if_neg (by decide : ¬ (false = true))]
        by_cases h2 : q = true ∧ wn (v.bal f.self) ≠ 0
        · rw [if_pos h2, if_pos ⟨by omega, h2.1⟩]; rfl
        · rw [if_neg h2, if_neg (fun h3 => h2 ⟨h3.2, by omega⟩)]; rfl
    · subst h
      show ((yaccess y.now.warmA (yaddr (yarg g 1)) + (if ((241 : Int) = 241 ∨ (241 : Int) = 242) ∧ yarg g 2 ≠ 0 then 9000 else 0) + (if (241 : Int) = 241 ∧ yarg g 2 ≠ 0 ∧ yempty (yacct y.now.accts (yaddr (yarg g 1))) = true then 25000 else 0) : Nat) : Int) = 0 + (accW v (addrW (m.argW f 1)) + (if wv (m.argW f 2) ≠ 0 then 9000 + (if (241 : Int) = 241 ∧ emptyA (v.acY (addrW (m.argW f 1))) = true then 25000 else 0) else 0))
      rw [hRP.vr.emptyV hM.vs hv, a1, e1, e2, ← y1]
      generalize yempty (yacct y.now.accts (addrW (m.argW f 1))) = q
      by_cases hz : wn (m.argW f 2) = 0
      · rw [if_neg (fun h => h.2 hz), if_neg (fun h => h.2.1 hz), if_neg (by omega)]; omega
      · rw [if_pos ⟨Or.inl rfl, hz⟩, if_pos (by omega : wv (m.argW f 2) ≠ 0)]
        by_cases hq : q = true
        · rw [if_pos ⟨rfl, hz, hq⟩, if_pos ⟨rfl, hq⟩]; omega
        · rw [if_neg (fun h => hq h.2.2), if_neg (fun h => hq h.2)]; omega
    · subst h
      show ((yaccess y.now.warmA (yaddr (yarg g 1)) + (if ((242 : Int) = 241 ∨ (242 : Int) = 242) ∧ yarg g 2 ≠ 0 then 9000 else 0) + (if (242 : Int) = 241 ∧ yarg g 2 ≠ 0 ∧ yempty (yacct y.now.accts (yaddr (yarg g 1))) = true then 25000 else 0) : Nat) : Int) = 0 + (accW v (addrW (m.argW f 1)) + (if wv (m.argW f 2) ≠ 0 then 9000 + (if (242 : Int) = 241 ∧ emptyA (v.acY (addrW (m.argW f 1))) = true then 25000 else 0) else 0))
      rw [a1, e1, e2, ← y1]
      by_cases hz : wn (m.argW f 2) = 0
      · rw [if_neg (fun h => h.2 hz), if_neg (by omega), if_neg (by omega)]; omega
      · rw [if_pos ⟨Or.inr rfl, hz⟩, if_neg (by omega), if_pos (by omega : wv (m.argW f 2) ≠ 0), if_neg (by omega)]; omega
  · rw [ybare_st hd (fam16n hd), dyn0 hd, (tab_at ho).2.2.2 hk hd]; omega
theorem cost_eq (hRP : RelP (rdB w) hs L v m y (rest ++ [g])) (hFP : FrP (rdB w) L v m t f g) (hM : MS w C c v B m) (hv : VInv v) (hA : ∀ i : Nat, yarg g i = wn (m.argW f i)) {o : Int} (ho : 0 ≤ o ∧ o ≤ 255) (hk : yknown o = true) {n : Nat} (hn : g.mem.length = n) (hre : (reachesW m f o).2 = true) :
    (ycost y g o : Int) = (infoW o).2.2.1 + dynW v m f o + (if (n : Int) / 32 < (reachesW m f o).1 then memCost (reachesW m f o).1 - memCost ((n : Int) / 32) else 0) := by
  have hb := bare_eq hRP hFP hM hv hA ho hk
  have hr := reaches_ok hA hM.ty hre
  unfold ycost
  rw [hr, hn]
  have e : ((n / 32 : Nat) : Int) = (n : Int) / 32 := by omega
  split
  · rename_i h; rw [if_neg (by omega)]; omega
  · rename_i h
    rw [if_pos (by omega), ← ymem_int, ← e, ← ymem_int]
    have := ymem_mono (a := n / 32) (b := ywords (yreach g o)) (by omega)
    omega
end
theorem costTo_nn {m : Mc} (hty : MTy m) {t : Nat} (hb : ∀ i, i ≤ t → 0 ≤ szOf m.base i) : ∀ n, n ≤ t + 1 → 0 ≤ costTo m.frames m.base n
  | 0, _ => Int.le_refl _
  | n + 1, hn => by
    have ih := costTo_nn hty hb n (by omega)
    have h1 : 0 ≤ gasOf m.frames n := by
      unfold gasOf
      cases hf : m.frames[n]? with
      | none => exact Int.le_refl _
      | some f => exact (hty.frames.2 f (List.mem_of_getElem? hf)).gas.1
    have h2 := memCost_nonneg (n := (szOf m.base n + 31) / 32) (by have := hb n (by omega); omega)
    simp only [costTo]; omega
theorem RI.gasmem {scan : List Int → List Int} {v : V} {m : Mc} {t n : Nat} {c S : Int} (h : RI scan v m t c S) (hty : MTy m) {f : Fm} (hf : m.frames[t]? = some f) (hn : szOf m.base t = (n : Int)) (h32 : n % 32 = 0) : f.gas + memCost ((n : Int) / 32) ≤ 1048576 := by
  have h1 := costTo_nn hty (fun i hi => (h.bs i hi).1) t (by omega)
  have h2 := h.mc
  simp only [costTo, gasOf_some hf, hn] at h2
  rw [show ((n : Int) + 31) / 32 = (n : Int) / 32 by omega] at h2
  omega
theorem cost_no {y : PSt} {g : PF} {o : Int} {n : Nat} (hr : 717280 < yreach g o) (hn : g.mem.length = n) (hnb : n ≤ 717280) (hg : (g.gas : Int) + memCost ((n : Int) / 32) ≤ 1048576) : g.gas < ycost y g o := by
  have hw : 22416 ≤ ywords (yreach g o) := by unfold ywords; omega
  have h1 := ymem_mono hw
  have h2 : ymem 22416 = 1048648 := by decide
  have e : ((n / 32 : Nat) : Int) = (n : Int) / 32 := by omega
  rw [← e, ← ymem_int] at hg
  unfold ycost
  rw [hn, if_neg (by omega)]
  omega
end Go.Proofs.YgvacwGreat
