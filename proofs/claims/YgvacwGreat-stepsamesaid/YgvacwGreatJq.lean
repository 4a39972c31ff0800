import Derived.Test.YgvacwGreatJp
import Derived.Test.YgvacwGreatHm
namespace Go.Proofs.YgvacwGreat
set_option linter.unusedSimpArgs false
set_option linter.unusedVariables false
/-! rows of bits -/
def bc (n : Nat) (g : Nat → Bool) : Array Value := ((List.range n).map (fun i => Value.bool (g i))).toArray
theorem size_bc (n : Nat) (g : Nat → Bool) : (bc n g).size = n := by simp [bc]
theorem bc_get (n : Nat) (g : Nat → Bool) (k : Nat) : (bc n g)[k]? = if k < n then some (.bool (g k)) else none := by
  simp only [bc, List.getElem?_toArray, List.getElem?_map]
  by_cases h : k < n
  · rw [List.getElem?_range h, if_pos h]; rfl
  · rw [List.getElem?_eq_none (by simp; omega), if_neg h]; rfl
theorem ce_bc {n : Nat} {g : Nat → Bool} {k : Nat} (h : k < n) : Ce (bc n g) k (.bool (g k)) := ⟨by rw [bc_get, if_pos h]⟩
theorem bc_set (n : Nat) (g : Nat → Bool) (k : Nat) (v : Bool) : (bc n g).setIfInBounds k (.bool v) = bc n (fun i => if i = k then v else g i) := by
  refine Array.ext_getElem? fun j => ?_
  rw [Array.getElem?_setIfInBounds, bc_get, bc_get, size_bc]
  by_cases h : k = j
  · subst h
    rw [if_pos rfl]
    by_cases h2 : k < n
    · simp [h2]
    · simp [h2]
  · rw [if_neg h]; simp [show j ≠ k from fun e => h e.symm]
theorem bc_congr {n : Nat} {g g' : Nat → Bool} (h : ∀ i, i < n → g i = g' i) : bc n g = bc n g' := by
  refine Array.ext_getElem? fun j => ?_
  rw [bc_get, bc_get]
  split
  · rename_i hj; rw [h j hj]
  · rfl
/-- the block b holds the bits g, nothing else has turned -/
structure BT (b : Nat) (T : TypeId) (n : Nat) (w w' : World) (g : Nat → Bool) : Prop where
  hb : Hb w' b (.cells (bc n g) T (0, 0))
  keep : KeepO (fun x => x = b) w w'
theorem BT.refl {b n : Nat} {T : TypeId} {w : World} {g : Nat → Bool} (h : Hb w b (.cells (bc n g) T (0, 0))) : BT b T n w w g := ⟨h, KeepO.refl _ _⟩
theorem BT.trans {b n : Nat} {T : TypeId} {w w1 w2 : World} {g g' : Nat → Bool} (h : BT b T n w w1 g) (h' : BT b T n w1 w2 g') : BT b T n w w2 g' := ⟨h'.hb, h.keep.trans h'.keep fun _ _ e => e⟩
theorem BT.ext {b n : Nat} {T : TypeId} {w w1 w2 : World} {g : Nat → Bool} (h : BT b T n w w1 g) (he : Ext w1 w2) : BT b T n w w2 g := ⟨h.hb.ext he, h.keep.extR he⟩
theorem BT.pre {b n : Nat} {T : TypeId} {w w1 w2 : World} {g : Nat → Bool} (he : Ext w w1) (h : BT b T n w1 w2 g) : BT b T n w w2 g := ⟨h.hb, (he.keepO _).trans h.keep fun _ _ e => e⟩
theorem BT.cg {b n : Nat} {T : TypeId} {w w' : World} {g g' : Nat → Bool} (h : BT b T n w w' g) (e : ∀ i, i < n → g i = g' i) : BT b T n w w' g' := ⟨by rw [← bc_congr e]; exact h.hb, h.keep⟩
theorem BT.other {b n x : Nat} {T : TypeId} {w w' : World} {g : Nat → Bool} {o : Obj} (h : BT b T n w w' g) (hx : Hb w x o) (hn : x ≠ b) : Hb w' x o := ⟨by rw [h.keep.old x hx.lt hn]; exact hx.h⟩
theorem BT.set {b n k : Nat} {T : TypeId} {w : World} {g : Nat → Bool} {v : Bool} (h : Hb w b (.cells (bc n g) T (0, 0))) : BT b T n w (setB w b (.cells ((bc n g).setIfInBounds k (.bool v)) T (0, 0))) (fun i => if i = k then v else g i) := by
  rw [bc_set]
  exact ⟨Hb.setSame h, (KeepO.refl (fun x => x = b) w).setB (fun _ => rfl) _⟩
theorem BT.ext0 {b n : Nat} {T : TypeId} {w0 w w' : World} {g : Nat → Bool} (h : BT b T n w w' g) (he : Ext w0 w) (hb : w0.heap.size ≤ b) : Ext w0 w' :=
  ⟨Nat.le_trans he.1 h.keep.sz, fun x hx => (h.keep.old x (Nat.lt_of_lt_of_le hx he.1) (by omega)).trans (he.2 x hx), h.keep.en.1.trans he.3.1, h.keep.en.2.1.trans he.3.2.1, h.keep.en.2.2.trans he.3.2.2⟩
section
variable {P : Program} {ρ : Nat → Value} {w : World} {ops : Array Oper} {Q : Post} {os : List Oper} {x y : Operand} {ty t e : TypeId}
theorem WO_storeQ {b o n : Nat} {T : TypeId} {g : Nat → Bool} {v : Bool} {pos : _} {af : _} (hS : ∀ w, (Go.sizeOf t).run P w = .ok 1 w) (hx : ev ρ x = .pointer (some ⟨b, o, none⟩)) (hy : ev ρ y = .bool v)
    (hb : Hb w b (.cells (bc n g) T (0, 0))) (ho : o < n) (h : ∀ w' g', BT b T n w w' g' → (∀ i, g' i = if i = o then v else g i) → WO P ops Q os ρ w') : WO P ops Q (⟨none, .store t x y, ty, pos, af, none⟩ :: os) ρ w :=
  WO_store1 hS hx hy hb.h rfl (by rw [size_bc]; exact ho) rfl (h _ _ (BT.set hb) (fun _ => rfl))
theorem WH_storeQ {S : World → Prop} {os' : List (Oper × Bool)} {tg : Bool} {b o n : Nat} {T : TypeId} {g : Nat → Bool} {v : Bool} {pos : _} {af : _} (hS : ∀ w, (Go.sizeOf t).run P w = .ok 1 w) (hx : ev ρ x = .pointer (some ⟨b, o, none⟩)) (hy : ev ρ y = .bool v)
    (hb : Hb w b (.cells (bc n g) T (0, 0))) (ho : o < n) (h : ∀ w' g', BT b T n w w' g' → (∀ i, g' i = if i = o then v else g i) → (tg = true → S w') ∧ WH P ops S Q os' ρ w') : WH P ops S Q ((⟨none, .store t x y, ty, pos, af, none⟩, tg) :: os') ρ w :=
  WH_store1 hS hx hy hb.h rfl (by rw [size_bc]; exact ho) rfl (h _ _ (BT.set hb) (fun _ => rfl)).1 (h _ _ (BT.set hb) (fun _ => rfl)).2
end
/-! the shift register -/
def kturnN (r : Nat) : Nat := ((r % 128) * 2) ^^^ (if r / 128 % 2 = 1 then 113 else 0)
def kregs : List Nat := [1, 2, 4, 8, 16, 32, 64, 128, 113, 226, 181, 27, 54, 108, 216, 193, 243, 151, 95, 190, 13, 26, 52, 104, 208, 209, 211, 215, 223, 207, 239, 175, 47, 94, 188, 9, 18, 36, 72, 144, 81, 162, 53, 106, 212, 217, 195, 247, 159, 79, 158, 77, 154, 69, 138, 101, 202, 229, 187, 7, 14, 28, 56, 112, 224, 177, 19, 38, 76, 152, 65, 130, 117, 234, 165, 59, 118, 236, 169, 35, 70, 140, 105, 210, 213, 219, 199, 255, 143, 111, 222, 205, 235, 167, 63, 126, 252, 137, 99, 198, 253, 139, 103, 206, 237, 171, 39, 78, 156, 73, 146, 85, 170, 37, 74, 148, 89, 178, 21, 42, 84, 168, 33, 66, 132, 121, 242, 149, 91, 182, 29, 58, 116, 232, 161, 51, 102, 204, 233, 163, 55, 110, 220, 201, 227, 183, 31, 62, 124, 248, 129, 115, 230, 189, 11, 22, 44, 88, 176, 17, 34, 68, 136, 97, 194, 245, 155, 71, 142, 109, 218, 197, 251, 135, 127, 254]
set_option maxRecDepth 100000 in
theorem kregs_step : ∀ t, t < 175 → kturnN (kregs.getD t 0) = kregs.getD (t + 1) 0 := by decide
set_option maxRecDepth 100000 in
theorem kregs_lt : ∀ t, t < 176 → kregs.getD t 0 < 256 := by decide
theorem kturn_bit {r : Nat} (i : Nat) : Nat.testBit (kturnN r) i = ((decide (1 ≤ i ∧ i < 8) && Nat.testBit r (i - 1)) != (Nat.testBit r 7 && decide (i = 0 ∨ i = 4 ∨ i = 5 ∨ i = 6))) := by
  unfold kturnN
  rw [Nat.testBit_xor]
  have e1 : Nat.testBit (r % 128 * 2) i = (decide (1 ≤ i ∧ i < 8) && Nat.testBit r (i - 1)) := by
    rw [show (128:Nat) = 2 ^ 7 from rfl, show r % 2 ^ 7 * 2 = r % 2 ^ 7 * 2 ^ 1 from rfl, Nat.testBit_mul_two_pow, Nat.testBit_mod_two_pow]
    by_cases h1 : 1 ≤ i
    · by_cases h2 : i < 8
      · simp [h1, h2, show i - 1 < 7 by omega]
      · simp [h1, h2, show ¬ (i - 1 < 7) by omega]
    · simp [h1]
  have e3 : ∀ j, Nat.testBit 113 j = decide (j = 0 ∨ j = 4 ∨ j = 5 ∨ j = 6) := by
    intro j
    rcases Nat.lt_or_ge j 7 with h | h
    · have : j = 0 ∨ j = 1 ∨ j = 2 ∨ j = 3 ∨ j = 4 ∨ j = 5 ∨ j = 6 := by omega
      rcases this with rfl | rfl | rfl | rfl | rfl | rfl | rfl <;> rfl
    · rw [Nat.testBit_lt_two_pow (Nat.lt_of_lt_of_le (by decide : 113 < 2 ^ 7) (Nat.pow_le_pow_right (by decide) h))]
      simp; omega
  have e2 : Nat.testBit (if r / 128 % 2 = 1 then 113 else 0) i = (Nat.testBit r 7 && decide (i = 0 ∨ i = 4 ∨ i = 5 ∨ i = 6)) := by
    rw [Nat.testBit_eq_decide_div_mod_eq (x := r), show (2:Nat) ^ 7 = 128 from rfl]
    split
    · rename_i h; rw [e3]; simp [h]
    · rename_i h; simp [h]
  rw [e1, e2]
def kcl (i : Nat) : Nat → Nat
  | 0 => 0
  | j + 1 => kcl i j ||| (if Nat.testBit (kregs.getD (7 * i + j) 0) 0 then 2 ^ (2 ^ j - 1) else 0)
set_option maxRecDepth 100000 in
theorem kcl_rc : ∀ i, i < 24 → kcl i 7 = krcs.getD i 0 := by decide
set_option maxRecDepth 100000 in
theorem kcl_lt : ∀ i, i < 24 → ∀ j, j < 8 → kcl i j < 2 ^ 64 := by decide
theorem kor_c {i j c' : Nat} (hi : i < 24) (hj : j < 7) (h : c' = kcl i j ||| 2 ^ (2 ^ j - 1)) : bOr ((kcl i j : Nat) : Int) ((1 : Int) * 2 ^ (min (((1 : Int) * 2 ^ (min ((j : Nat) : Int).toNat 64) % 18446744073709551616 - 1) % 18446744073709551616).toNat 64) % 18446744073709551616) = ((c' : Nat) : Int) := by
  have hk := kcl_lt i hi j (by omega)
  have hc : j = 0 ∨ j = 1 ∨ j = 2 ∨ j = 3 ∨ j = 4 ∨ j = 5 ∨ j = 6 := by omega
  have e : ((1 : Int) * 2 ^ (min (((1 : Int) * 2 ^ (min ((j : Nat) : Int).toNat 64) % 18446744073709551616 - 1) % 18446744073709551616).toNat 64) % 18446744073709551616 : Int) = ((2 ^ (2 ^ j - 1) : Nat) : Int) := by
    rcases hc with rfl | rfl | rfl | rfl | rfl | rfl | rfl <;> rfl
  have hp : 2 ^ (2 ^ j - 1) < 18446744073709551616 := by rcases hc with rfl | rfl | rfl | rfl | rfl | rfl | rfl <;> decide
  rw [e, bOr_nat (by omega) (by omega) (by omega) (by omega), Int.toNat_natCast, Int.toNat_natCast, h]
theorem oneCell_bc {n : Nat} {g : Nat → Bool} : ∀ u ∈ (Value.agg (bc n g)).cells.toList, u.oneCell' = true := by
  intro u hu
  simp [Value.cells, bc] at hu
  obtain ⟨a, _, rfl⟩ := hu
  rfl
theorem koff_num (t : Nat) : ((t : Int) + 1) * ((t : Int) + 2) / 2 % 64 = (((t + 1) * (t + 2) / 2 % 64 : Nat) : Int) := by
  have e : ((t : Int) + 1) * ((t : Int) + 2) = (((t + 1) * (t + 2) : Nat) : Int) := by simp
  rw [e]; omega
def kuvs : List (Nat × Nat) := [(1, 0), (0, 2), (2, 1), (1, 2), (2, 3), (3, 3), (3, 0), (0, 1), (1, 3), (3, 1), (1, 4), (4, 4), (4, 0), (0, 3), (3, 4), (4, 3), (3, 2), (2, 2), (2, 0), (0, 4), (4, 2), (2, 4), (4, 1), (1, 1), (1, 0)]
set_option maxRecDepth 100000 in
theorem kuvs_step : ∀ t, t < 24 → kuvs.getD (t + 1) (0, 0) = ((kuvs.getD t (0, 0)).2, (2 * (kuvs.getD t (0, 0)).1 + 3 * (kuvs.getD t (0, 0)).2) % 5) := by decide
set_option maxRecDepth 100000 in
theorem kuvs_lt : ∀ t, t < 25 → (kuvs.getD t (0, 0)).1 < 5 ∧ (kuvs.getD t (0, 0)).2 < 5 := by decide
set_option maxRecDepth 100000 in
theorem kuvs_off : ∀ t, t < 24 → koff (kuvs.getD t (0, 0)).1 (kuvs.getD t (0, 0)).2 = (t + 1) * (t + 2) / 2 % 64 := by decide
set_option maxRecDepth 100000 in
theorem kuvs_none : ∀ x, x < 5 → ∀ y, y < 5 → (∀ t, t < 24 → kuvs.getD t (0, 0) ≠ (x, y)) → koff x y = 0 := by decide

set_option maxRecDepth 10000 in
theorem kturn_ex (b r : Nat) (T : TypeId) (w : World) (hb : Hb w b (.cells (bc 8 (Nat.testBit r)) T (0, 0))) (hr : r < 256) : Ret Hvac.prog 374 #[.pointer (some ⟨b, 0, none⟩)] w fun u w' => u = .tuple #[] ∧ BT b T 8 w w' (Nat.testBit (kturnN r)) := by
  have hce7 : Ce (bc 8 (Nat.testBit r)) (0 + (7:Int).toNat * 1) (.bool (Nat.testBit r 7)) := ce_bc (by decide)
  refine Ret_of_W Hvac.func374 rfl rfl ?_
  refine W_seq ?_
  refine W_region rfl ?_
  refine WO_p (PS_move_ptr rfl) ?_
  refine WO_p (PS_nilCheck rfl) ?_
  refine WO_p (PS_indexA Hvac.runUnderlying417 Hvac.sizeOf4 rfl rfl (by omega) (by omega)) ?_
  refine WO_load (.bool _) Hvac.isAgg4 rfl (Hb.h (by repeat (first | assumption | exact Hb.newY _ _ | refine Hb.alloc ?_ | refine Hb.drew ?_ | refine Hb.ext (by assumption) ?_ | exact Hb.setSameL (by first | omega | (simp only [size_alloc, size_setB, size_drew]; omega)) | exact Hb.setSame (by assumption) | refine Hb.set (by first | omega | (simp only [size_alloc, size_setB, size_drew]; omega)) ?_ ))) (Ce.h (by first | assumption | exact ⟨rfl⟩)) ?_
  refine WO_p (PS_assign_bool rfl) ?_
  refine WO_nil ?_
  refine thn_normal ?_
  refine W_seq ?_
  refine W_seq ?_
  refine W_region rfl ?_
  refine WO_p (PS_assign_int rfl) ?_
  refine WO_nil ?_
  refine thn_normal ?_
  refine W_block ?_
  refine W_loopN (fun m ρ w' => ∃ g : Nat → Bool, m ≤ 7 ∧ (∀ j, g j = if m < j ∧ j < 8 then Nat.testBit r (j - 1) else Nat.testBit r j) ∧ Fr [(0, .pointer (some ⟨b, 0, none⟩)), (2, .bool (Nat.testBit r 7)), (3, .int .i64 m)] ρ ∧ BT b T 8 w w' g) 7 ?_ ?_
  · exact ⟨Nat.testBit r, by omega, fun j => by rw [if_neg (by omega)], ⟨rfl, rfl, rfl, trivial⟩, BT.refl hb⟩
  intro m ρ w2 hI
  obtain ⟨g, hm7, hg, hF, hB2⟩ := hI
  refine W_env _ hF ?_
  have hb2 := hB2.hb
  refine W_seq ?_
  refine W_seq ?_
  refine W_region rfl ?_
  refine WO_p (PS_move_int rfl) ?_
  refine WO_p (PS_gtr rfl rfl) ?_
  refine WO_nil ?_
  refine thn_normal ?_
  refine W_if rfl (fun hb3 => ?_) (fun hb3 => ?_)
  · have hb3p := hb3.h; try simp only [al_ete, al_dfn, Bool.not_eq_true', Bool.not_eq_false', al_ne, Bool.not_not, al_nn] at hb3p
    have hce : Ce (bc 8 g) (0 + ((m:Int) - 1).toNat * 1) (.bool (g (m - 1))) := by rw [show 0 + ((m:Int) - 1).toNat * 1 = m - 1 by omega]; exact ce_bc (by omega)
    refine W_skip ?_
    refine thn_normal ?_
    refine W_seq ?_
    refine W_block ?_
    refine W_drawE [false, false, false, false, false, false, false, false, false, false, false] hmix (by kernel_rfl) rfl ?_
    refine WH_p (PS_move_ptr rfl) rfl ?_
    refine WH_p (PS_move_int rfl) rfl ?_
    refine WH_p (PS_move_ptr rfl) rfl ?_
    refine WH_p (PS_move_int rfl) rfl ?_
    refine WH_p (PS_sub_i64n rfl rfl (by omega) (by omega)) rfl ?_
    refine WH_p (PS_nilCheck rfl) rfl ?_
    refine WH_p (PS_indexA Hvac.runUnderlying417 Hvac.sizeOf4 rfl rfl (by omega) (by omega)) rfl ?_
    refine WH_load (.bool _) Hvac.isAgg4 rfl (Hb.h (by repeat (first | assumption | exact Hb.newY _ _ | refine Hb.alloc ?_ | refine Hb.drew ?_ | refine Hb.ext (by assumption) ?_ | exact Hb.setSameL (by first | omega | (simp only [size_alloc, size_setB, size_drew]; omega)) | exact Hb.setSame (by assumption) | refine Hb.set (by first | omega | (simp only [size_alloc, size_setB, size_drew]; omega)) ?_ ))) (Ce.h (by first | assumption | exact ⟨rfl⟩)) ?_
    refine WH_p (PS_nilCheck rfl) rfl ?_
    refine WH_p (PS_indexA Hvac.runUnderlying417 Hvac.sizeOf4 rfl rfl (by omega) (by omega)) rfl ?_
    refine WH_storeQ (n := 8) Hvac.sizeOf4 rfl rfl (Hb.drew hb2) (by omega) ?_
    intro w4 g4 hB4 hg4
    refine ⟨(fun h => by cases h), ?_⟩
    refine WH_nil ?_
    refine inBlk_normal ?_
    refine thn_normal ?_
    refine W_region rfl ?_
    refine WO_p (PS_move_int rfl) ?_
    refine WO_p (PS_sub_i64n rfl rfl (by omega) (by omega)) ?_
    refine WO_p (PS_assign_int rfl) ?_
    refine WO_nil ?_
    refine thn_normal ?_
    exact ⟨m - 1, by omega, _, by omega, fun j => by
      rw [hg4 j, show 0 + ((m:Int)).toNat * 1 = m by omega]
      by_cases h9 : j = m
      · subst h9; rw [if_pos rfl, if_pos (by omega), hg, if_neg (by omega)]
      · rw [if_neg h9, hg]
        by_cases h8 : m < j ∧ j < 8
        · rw [if_pos h8, if_pos (by omega)]
        · rw [if_neg h8, if_neg (by omega)], ⟨rfl, rfl, congrArg (Value.int .i64) (by omega), trivial⟩, hB2.trans (BT.pre (Ext.drew (Ext.refl _)) hB4)⟩
  · have hb3p := hb3.h; try simp only [al_ete, al_dfn, Bool.not_eq_true', Bool.not_eq_false', al_ne, Bool.not_not, al_nn] at hb3p
    refine W_exit ?_
    refine thn_exit ?_
    refine thn_exit ?_
    refine inBlk_exit ?_
    refine thn_normal ?_
    refine W_seq ?_
    refine W_region rfl ?_
    refine WO_p (PS_move_ptr rfl) ?_
    refine WO_p (PS_move_bool rfl) ?_
    refine WO_p (PS_nilCheck rfl) ?_
    refine WO_p (PS_indexA Hvac.runUnderlying417 Hvac.sizeOf4 rfl rfl (by omega) (by omega)) ?_
    refine WO_storeQ (n := 8) Hvac.sizeOf4 rfl rfl hb2 (by decide) ?_
    intro w5 g5 hB5 hg5
    have hb5 := hB5.hb
    have hce4 : Ce (bc 8 g5) (0 + (4:Int).toNat * 1) (.bool (g5 4)) := ce_bc (n := 8) (by decide)
    refine WO_nil ?_
    refine thn_normal ?_
    refine W_seq ?_
    refine W_drawE [false, false, false, false, false, false, false, false, false, false] hmix (by kernel_rfl) rfl ?_
    refine WH_p (PS_move_ptr rfl) rfl ?_
    refine WH_p (PS_move_ptr rfl) rfl ?_
    refine WH_p (PS_nilCheck rfl) rfl ?_
    refine WH_p (PS_indexA Hvac.runUnderlying417 Hvac.sizeOf4 rfl rfl (by omega) (by omega)) rfl ?_
    refine WH_load (.bool _) Hvac.isAgg4 rfl (Hb.h (by repeat (first | assumption | exact Hb.newY _ _ | refine Hb.alloc ?_ | refine Hb.drew ?_ | refine Hb.ext (by assumption) ?_ | exact Hb.setSameL (by first | omega | (simp only [size_alloc, size_setB, size_drew]; omega)) | exact Hb.setSame (by assumption) | refine Hb.set (by first | omega | (simp only [size_alloc, size_setB, size_drew]; omega)) ?_ ))) (Ce.h (by first | assumption | exact ⟨rfl⟩)) ?_
    refine WH_p (PS_move_bool rfl) rfl ?_
    refine WH_p (PS_neqbool Hvac.underlying4 rfl rfl) rfl ?_
    refine WH_p (PS_nilCheck rfl) rfl ?_
    refine WH_p (PS_indexA Hvac.runUnderlying417 Hvac.sizeOf4 rfl rfl (by omega) (by omega)) rfl ?_
    refine WH_storeQ (n := 8) Hvac.sizeOf4 rfl rfl (Hb.drew hb5) (by decide) ?_
    intro w6 g6 hB6 hg6
    have hb6 := hB6.hb
    have hce5 : Ce (bc 8 g6) (0 + (5:Int).toNat * 1) (.bool (g6 5)) := ce_bc (n := 8) (by decide)
    refine ⟨(fun h => by cases h), ?_⟩
    refine WH_nil ?_
    refine thn_normal ?_
    refine W_seq ?_
    refine W_drawE [false, false, false, false, false, false, false, false, false, false] hmix (by kernel_rfl) rfl ?_
    refine WH_p (PS_move_ptr rfl) rfl ?_
    refine WH_p (PS_move_ptr rfl) rfl ?_
    refine WH_p (PS_nilCheck rfl) rfl ?_
    refine WH_p (PS_indexA Hvac.runUnderlying417 Hvac.sizeOf4 rfl rfl (by omega) (by omega)) rfl ?_
    refine WH_load (.bool _) Hvac.isAgg4 rfl (Hb.h (by repeat (first | assumption | exact Hb.newY _ _ | refine Hb.alloc ?_ | refine Hb.drew ?_ | refine Hb.ext (by assumption) ?_ | exact Hb.setSameL (by first | omega | (simp only [size_alloc, size_setB, size_drew]; omega)) | exact Hb.setSame (by assumption) | refine Hb.set (by first | omega | (simp only [size_alloc, size_setB, size_drew]; omega)) ?_ ))) (Ce.h (by first | assumption | exact ⟨rfl⟩)) ?_
    refine WH_p (PS_move_bool rfl) rfl ?_
    refine WH_p (PS_neqbool Hvac.underlying4 rfl rfl) rfl ?_
    refine WH_p (PS_nilCheck rfl) rfl ?_
    refine WH_p (PS_indexA Hvac.runUnderlying417 Hvac.sizeOf4 rfl rfl (by omega) (by omega)) rfl ?_
    refine WH_storeQ (n := 8) Hvac.sizeOf4 rfl rfl (Hb.drew hb6) (by decide) ?_
    intro w7 g7 hB7 hg7
    have hb7 := hB7.hb
    have hce6 : Ce (bc 8 g7) (0 + (6:Int).toNat * 1) (.bool (g7 6)) := ce_bc (n := 8) (by decide)
    refine ⟨(fun h => by cases h), ?_⟩
    refine WH_nil ?_
    refine thn_normal ?_
    refine W_drawE [false, false, false, false, false, false, false, false, false, false] hmix (by kernel_rfl) rfl ?_
    refine WH_p (PS_move_ptr rfl) rfl ?_
    refine WH_p (PS_move_ptr rfl) rfl ?_
    refine WH_p (PS_nilCheck rfl) rfl ?_
    refine WH_p (PS_indexA Hvac.runUnderlying417 Hvac.sizeOf4 rfl rfl (by omega) (by omega)) rfl ?_
    refine WH_load (.bool _) Hvac.isAgg4 rfl (Hb.h (by repeat (first | assumption | exact Hb.newY _ _ | refine Hb.alloc ?_ | refine Hb.drew ?_ | refine Hb.ext (by assumption) ?_ | exact Hb.setSameL (by first | omega | (simp only [size_alloc, size_setB, size_drew]; omega)) | exact Hb.setSame (by assumption) | refine Hb.set (by first | omega | (simp only [size_alloc, size_setB, size_drew]; omega)) ?_ ))) (Ce.h (by first | assumption | exact ⟨rfl⟩)) ?_
    refine WH_p (PS_move_bool rfl) rfl ?_
    refine WH_p (PS_neqbool Hvac.underlying4 rfl rfl) rfl ?_
    refine WH_p (PS_nilCheck rfl) rfl ?_
    refine WH_p (PS_indexA Hvac.runUnderlying417 Hvac.sizeOf4 rfl rfl (by omega) (by omega)) rfl ?_
    refine WH_storeQ (n := 8) Hvac.sizeOf4 rfl rfl (Hb.drew hb7) (by decide) ?_
    intro w8 g8 hB8 hg8
    refine ⟨(fun h => by cases h), ?_⟩
    refine WH_nil ?_
    first | refine bodyQ_ret0 Hvac.results374 ?_ | refine bodyQ_end0 Hvac.results374 ?_
    refine ⟨rfl, BT.cg (((((hB2.trans hB5).trans (BT.pre (Ext.drew (Ext.refl _)) hB6)).trans (BT.pre (Ext.drew (Ext.refl _)) hB7)).trans (BT.pre (Ext.drew (Ext.refl _)) hB8))) ?_⟩
    intro i hi
    have hm0 : m = 0 := by omega
    subst hm0
    rw [kturn_bit]
    have hc : i = 0 ∨ i = 1 ∨ i = 2 ∨ i = 3 ∨ i = 4 ∨ i = 5 ∨ i = 6 ∨ i = 7 := by omega
    rcases hc with rfl | rfl | rfl | rfl | rfl | rfl | rfl | rfl <;> simp [hg8, hg7, hg6, hg5, hg]
    · generalize Nat.testBit r 7 = p
      generalize Nat.testBit r 3 = q
      cases p <;> cases q <;> rfl
    · generalize Nat.testBit r 7 = p
      generalize Nat.testBit r 4 = q
      cases p <;> cases q <;> rfl
    · generalize Nat.testBit r 7 = p
      generalize Nat.testBit r 5 = q
      cases p <;> cases q <;> rfl

set_option maxRecDepth 10000 in
theorem kconst_ex (i : Nat) (w : World) (hi : i < 24) : Ret Hvac.prog 362 #[.int .u8 (i : Int)] w fun u w' => Ext w w' ∧ u = .int .u64 ((krcs.getD i 0 : Nat) : Int) := by
  refine Ret_of_W Hvac.func362 rfl rfl ?_
  refine W_seq ?_
  refine W_region rfl ?_
  refine WO_p (PS_assign_int rfl) ?_
  refine WO_nil ?_
  refine thn_normal ?_
  refine W_seq ?_
  refine W_seq ?_
  refine W_region rfl ?_
  refine WO_p (PS_move_int rfl) ?_
  refine WO_p (PS_geq rfl rfl) ?_
  refine WO_nil ?_
  refine thn_normal ?_
  refine W_if rfl (fun hb2 => ?_) (fun hb2 => ?_)
  · have hb2p := hb2.h; try simp only [al_ete, al_dfn, Bool.not_eq_true', Bool.not_eq_false', al_ne, Bool.not_not, al_nn] at hb2p
    exfalso; omega --END
  · have hb2p := hb2.h; try simp only [al_ete, al_dfn, Bool.not_eq_true', Bool.not_eq_false', al_ne, Bool.not_not, al_nn] at hb2p
    refine W_skip ?_
    refine thn_normal ?_
    refine W_seq ?_
    refine W_region rfl ?_
    refine WO_p (PS_buildA Hvac.zeroValue417 Hvac.runUnderlying417 Hvac.sizeOf4 (by rfl : _ = some (bc 8 (Nat.testBit 1)))) ?_
    refine WO_alloc Hvac.zeroValue417 ?_
    refine WO_storeW Hvac.sizeOf417 rfl (v := .agg _) rfl (Hb.h (Hb.newY _ _)) rfl rfl rfl oneCell_bc ?_
    refine WO_nil ?_
    refine thn_normal ?_
    refine W_seq ?_
    refine W_seq ?_
    refine W_region rfl ?_
    refine WO_p (PS_assign_int rfl) ?_
    refine WO_nil ?_
    refine thn_normal ?_
    refine W_block ?_
    refine W_loopN (fun m ρ w' => ∃ t : Nat, t + m = 7 * i ∧ Fr [(0, .int .u8 i), (3, .pointer (some ⟨w.heap.size, 0, none⟩)), (4, .int .i64 t)] ρ ∧ Ext w w' ∧ Hb w' w.heap.size (.cells (bc 8 (Nat.testBit (kregs.getD t 0))) 417 (0, 0))) (7 * i) ?_ ?_
    · exact ⟨0, by omega, ⟨rfl, rfl, rfl, trivial⟩, Ext.setB (Ext.alloc (Ext.refl w) _) (by omega) _, Hb.setSame (Hb.newY _ _)⟩
    intro m ρ w2 hI
    obtain ⟨t, htm, hF, hE2, hb2⟩ := hI
    refine W_env _ hF ?_
    refine W_seq ?_
    refine W_seq ?_
    refine W_region rfl ?_
    refine WO_p (PS_move_int rfl) ?_
    refine WO_p (PS_move_int rfl) ?_
    refine WO_p (PS_conv_i64n Hvac.runUnderlying5 Hvac.runUnderlying3 rfl (by omega) (by omega)) ?_
    refine WO_p (PS_mul_i64n rfl rfl (by omega) (by omega)) ?_
    refine WO_p (PS_lss rfl rfl) ?_
    refine WO_nil ?_
    refine thn_normal ?_
    refine W_if rfl (fun hb4 => ?_) (fun hb4 => ?_)
    · have hb4p := hb4.h; try simp only [al_ete, al_dfn, Bool.not_eq_true', Bool.not_eq_false', al_ne, Bool.not_not, al_nn] at hb4p
      refine W_skip ?_
      refine thn_normal ?_
      refine W_seq ?_
      refine W_block ?_
      refine W_region rfl ?_
      refine WO_call Hvac.call374 (by rfl) (Ret.mono (kturn_ex w.heap.size (kregs.getD t 0) 417 _ hb2 (kregs_lt t (by omega))) ?_)
      rintro _ w3 ⟨rfl, hB3⟩
      refine WO_nil ?_
      refine inBlk_normal ?_
      refine thn_normal ?_
      refine W_region rfl ?_
      refine WO_p (PS_move_int rfl) ?_
      refine WO_p (PS_add_i64n rfl rfl (by omega) (by omega)) ?_
      refine WO_p (PS_assign_int rfl) ?_
      refine WO_nil ?_
      refine thn_normal ?_
      exact ⟨m - 1, by omega, t + 1, by omega, ⟨rfl, rfl, congrArg (Value.int .i64) (by omega), trivial⟩, hB3.ext0 hE2 (Nat.le_refl _), by rw [← kregs_step t (by omega)]; exact hB3.hb⟩
    · have hb4p := hb4.h; try simp only [al_ete, al_dfn, Bool.not_eq_true', Bool.not_eq_false', al_ne, Bool.not_not, al_nn] at hb4p
      refine W_exit ?_
      refine thn_exit ?_
      refine thn_exit ?_
      refine inBlk_exit ?_
      refine thn_normal ?_
      refine W_seq ?_
      refine W_region rfl ?_
      refine WO_p (PS_assign_int rfl) ?_
      refine WO_nil ?_
      refine thn_normal ?_
      refine W_seq ?_
      refine W_seq ?_
      refine W_region rfl ?_
      refine WO_p (PS_assign_int rfl) ?_
      refine WO_nil ?_
      refine thn_normal ?_
      refine W_block ?_
      refine W_loopN (fun m ρ w' => ∃ j : Nat, j + m = 7 ∧ Fr [(3, .pointer (some ⟨w.heap.size, 0, none⟩)), (5, .int .u64 ((kcl i j : Nat) : Int)), (6, .int .i64 j)] ρ ∧ Ext w w' ∧ Hb w' w.heap.size (.cells (bc 8 (Nat.testBit (kregs.getD (7 * i + j) 0))) 417 (0, 0))) 7 ?_ ?_
      · exact ⟨0, by omega, ⟨rfl, rfl, rfl, trivial⟩, hE2, by rw [show 7 * i + 0 = t by omega]; exact hb2⟩
      intro m4 ρ4 w4 hI
      obtain ⟨j, hjm, hF4, hE4, hb4⟩ := hI
      refine W_env _ hF4 ?_
      refine W_seq ?_
      refine W_seq ?_
      refine W_region rfl ?_
      refine WO_p (PS_move_int rfl) ?_
      refine WO_p (PS_leq rfl rfl) ?_
      refine WO_nil ?_
      refine thn_normal ?_
      refine W_if rfl (fun hb7 => ?_) (fun hb7 => ?_)
      · have hb7p := hb7.h; try simp only [al_ete, al_dfn, Bool.not_eq_true', Bool.not_eq_false', al_ne, Bool.not_not, al_nn] at hb7p
        have hce0 : Ce (bc 8 (Nat.testBit (kregs.getD (7 * i + j) 0))) (0 + (0:Int).toNat * 1) (.bool (Nat.testBit (kregs.getD (7 * i + j) 0) 0)) := ce_bc (by decide)
        refine W_skip ?_
        refine thn_normal ?_
        refine W_seq ?_
        refine W_block ?_
        refine W_seq ?_
        refine W_seq ?_
        refine W_region rfl ?_
        refine WO_p (PS_indexA Hvac.runUnderlying417 Hvac.sizeOf4 rfl rfl (by omega) (by omega)) ?_
        refine WO_load (.bool _) Hvac.isAgg4 rfl (Hb.h (by repeat (first | assumption | exact Hb.newY _ _ | refine Hb.alloc ?_ | refine Hb.drew ?_ | refine Hb.ext (by assumption) ?_ | exact Hb.setSameL (by first | omega | (simp only [size_alloc, size_setB, size_drew]; omega)) | exact Hb.setSame (by assumption) | refine Hb.set (by first | omega | (simp only [size_alloc, size_setB, size_drew]; omega)) ?_ ))) (Ce.h (by first | assumption | exact ⟨rfl⟩)) ?_
        refine WO_nil ?_
        refine thn_normal ?_
        refine W_if rfl (fun hb9 => ?_) (fun hb9 => ?_)
        · have hb9p := hb9.h; try simp only [al_ete, al_dfn, Bool.not_eq_true', Bool.not_eq_false', al_ne, Bool.not_not, al_nn] at hb9p
          have hbt := hb9p
          have hcn : kcl i (j + 1) = kcl i j ||| 2 ^ (2 ^ j - 1) := by show kcl i j ||| _ = _; rw [if_pos hbt]
          refine W_region rfl ?_
          refine WO_p (PS_move_int rfl) ?_
          refine WO_p (PS_move_int rfl) ?_
          refine WO_p (PS_shl_u64 _ rfl rfl (by omega) rfl) ?_
          refine WO_p (PS_sub_u64w rfl rfl) ?_
          refine WO_p (PS_shl_u64 _ rfl rfl (by omega) rfl) ?_
          refine WO_p (PS_or_u64 rfl rfl) ?_
          refine WO_p (PS_assign_int rfl) ?_
          refine WO_nil ?_
          refine thn_normal ?_
          refine W_region rfl ?_
          refine WO_call Hvac.call374 (by rfl) (Ret.mono (kturn_ex w.heap.size (kregs.getD (7 * i + j) 0) 417 _ hb4 (kregs_lt _ (by omega))) ?_)
          rintro _ w5 ⟨rfl, hB5⟩
          refine WO_nil ?_
          refine inBlk_normal ?_
          refine thn_normal ?_
          refine W_region rfl ?_
          refine WO_p (PS_move_int rfl) ?_
          refine WO_p (PS_add_i64n rfl rfl (by omega) (by omega)) ?_
          refine WO_p (PS_assign_int rfl) ?_
          refine WO_nil ?_
          refine thn_normal ?_
          exact ⟨m4 - 1, by omega, j + 1, by omega, ⟨rfl, congrArg (Value.int .u64) (kor_c hi (by omega) hcn), congrArg (Value.int .i64) (by omega), trivial⟩, hB5.ext0 hE4 (Nat.le_refl _), by rw [show 7 * i + (j + 1) = 7 * i + j + 1 by omega, ← kregs_step _ (by omega)]; exact hB5.hb⟩
        · have hb9p := hb9.h; try simp only [al_ete, al_dfn, Bool.not_eq_true', Bool.not_eq_false', al_ne, Bool.not_not, al_nn] at hb9p
          have hbt := hb9p
          have hcn : kcl i (j + 1) = kcl i j := by show kcl i j ||| _ = _; rw [if_neg (by rw [hbt]; decide)]; exact Nat.or_zero _
          refine W_skip ?_
          refine thn_normal ?_
          refine W_region rfl ?_
          refine WO_call Hvac.call374 (by rfl) (Ret.mono (kturn_ex w.heap.size (kregs.getD (7 * i + j) 0) 417 _ hb4 (kregs_lt _ (by omega))) ?_)
          rintro _ w5 ⟨rfl, hB5⟩
          refine WO_nil ?_
          refine inBlk_normal ?_
          refine thn_normal ?_
          refine W_region rfl ?_
          refine WO_p (PS_move_int rfl) ?_
          refine WO_p (PS_add_i64n rfl rfl (by omega) (by omega)) ?_
          refine WO_p (PS_assign_int rfl) ?_
          refine WO_nil ?_
          refine thn_normal ?_
          exact ⟨m4 - 1, by omega, j + 1, by omega, ⟨rfl, congrArg (Value.int .u64) (by rw [hcn]), congrArg (Value.int .i64) (by omega), trivial⟩, hB5.ext0 hE4 (Nat.le_refl _), by rw [show 7 * i + (j + 1) = 7 * i + j + 1 by omega, ← kregs_step _ (by omega)]; exact hB5.hb⟩
      · have hb7p := hb7.h; try simp only [al_ete, al_dfn, Bool.not_eq_true', Bool.not_eq_false', al_ne, Bool.not_not, al_nn] at hb7p
        refine W_exit ?_
        refine thn_exit ?_
        refine thn_exit ?_
        refine inBlk_exit ?_
        refine thn_normal ?_
        refine W_seq ?_
        refine W_region rfl ?_
        refine WO_p (PS_move_int rfl) ?_
        refine WO_p (PS_assign_int rfl) ?_
        refine WO_nil ?_
        refine thn_normal ?_
        refine W_ret ?_
        refine bodyQ_ret1 Hvac.results362 rfl (.int _ _) rfl ?_
        exact ⟨hE4, by rw [show j = 7 by omega, kcl_rc i hi]⟩

set_option maxRecDepth 10000 in
theorem koffset_ex (x y : Nat) (w : World) (hx : x < 5) (hy : y < 5) : Ret Hvac.prog 360 #[.int .u8 (x : Int), .int .u8 (y : Int)] w fun u w' => Ext w w' ∧ u = .int .u8 ((koff x y : Nat) : Int) := by
  refine Ret_of_W Hvac.func360 rfl rfl ?_
  refine W_seq ?_
  refine W_region rfl ?_
  refine WO_p (PS_assign_int rfl) ?_
  refine WO_nil ?_
  refine thn_normal ?_
  refine W_seq ?_
  refine W_seq ?_
  refine W_region rfl ?_
  refine WO_p (PS_move_int rfl) ?_
  refine WO_p (PS_geq rfl rfl) ?_
  refine WO_p (PS_move_bool rfl) ?_
  refine WO_if (t := 10) rfl (fun hb2 => ?_) (fun hb2 => ?_)
  · have hb2p := hb2.h; try simp only [al_ete, al_dfn, Bool.not_eq_true', Bool.not_eq_false', al_ne, Bool.not_not, al_nn] at hb2p
    exfalso; omega --END
  · have hb2p := hb2.h; try simp only [al_ete, al_dfn, Bool.not_eq_true', Bool.not_eq_false', al_ne, Bool.not_not, al_nn] at hb2p
    refine WO_guardT rfl rfl hb2.h ?_
    refine WO_p (PS_move_int rfl) ?_
    refine WO_guardT rfl rfl hb2.h ?_
    refine WO_p (PS_geq rfl rfl) ?_
    refine WO_p (PS_pickF rfl hb2.h rfl) ?_
    refine WO_nil ?_
    refine thn_normal ?_
    refine W_if rfl (fun hb4 => ?_) (fun hb4 => ?_)
    · have hb4p := hb4.h; try simp only [al_ete, al_dfn, Bool.not_eq_true', Bool.not_eq_false', al_ne, Bool.not_not, al_nn] at hb4p
      exfalso; omega --END
    · have hb4p := hb4.h; try simp only [al_ete, al_dfn, Bool.not_eq_true', Bool.not_eq_false', al_ne, Bool.not_not, al_nn] at hb4p
      refine W_skip ?_
      refine thn_normal ?_
      refine W_seq ?_
      refine W_region rfl ?_
      refine WO_p (PS_assign_int rfl) ?_
      refine WO_p (PS_assign_int rfl) ?_
      refine WO_nil ?_
      refine thn_normal ?_
      refine W_seq ?_
      refine W_seq ?_
      refine W_region rfl ?_
      refine WO_p (PS_assign_int rfl) ?_
      refine WO_nil ?_
      refine thn_normal ?_
      refine W_block ?_
      refine W_loopN (fun m ρ w' => ∃ t : Nat, t + m = 24 ∧ (∀ j, j < t → kuvs.getD j (0, 0) ≠ (x, y)) ∧ Fr [(0, .int .u8 x), (1, .int .u8 y), (5, .int .i64 (kuvs.getD t (0, 0)).1), (6, .int .i64 (kuvs.getD t (0, 0)).2), (7, .int .i64 t)] ρ ∧ Ext w w') 24 ?_ ?_
      · exact ⟨0, by omega, fun j hj => by omega, ⟨rfl, rfl, rfl, rfl, rfl, trivial⟩, Ext.refl _⟩
      intro m ρ w2 hI
      obtain ⟨t, htm, hne, hF, hE2⟩ := hI
      refine W_env _ hF ?_
      refine W_seq ?_
      refine W_seq ?_
      refine W_region rfl ?_
      refine WO_p (PS_move_int rfl) ?_
      refine WO_p (PS_lss rfl rfl) ?_
      refine WO_nil ?_
      refine thn_normal ?_
      refine W_if rfl (fun hb6 => ?_) (fun hb6 => ?_)
      · have hb6p := hb6.h; try simp only [al_ete, al_dfn, Bool.not_eq_true', Bool.not_eq_false', al_ne, Bool.not_not, al_nn] at hb6p
        refine W_skip ?_
        refine thn_normal ?_
        refine W_seq ?_
        refine W_block ?_
        refine W_seq ?_
        refine W_seq ?_
        refine W_region rfl ?_
        refine WO_p (PS_move_int rfl) ?_
        refine WO_p (PS_move_int rfl) ?_
        refine WO_p (PS_conv_i64n Hvac.runUnderlying5 Hvac.runUnderlying3 rfl (by omega) (by omega)) ?_
        refine WO_p (PS_eql rfl rfl) ?_
        refine WO_p (PS_move_bool rfl) ?_
        refine WO_if (t := 22) rfl (fun hb8 => ?_) (fun hb8 => ?_)
        · have hb8p := hb8.h; try simp only [al_ete, al_dfn, Bool.not_eq_true', Bool.not_eq_false', al_ne, Bool.not_not, al_nn] at hb8p
          have hu1 := hb8p
          refine WO_guardT rfl rfl hb8.h ?_
          refine WO_p (PS_move_int rfl) ?_
          refine WO_guardT rfl rfl hb8.h ?_
          refine WO_p (PS_move_int rfl) ?_
          refine WO_guardT rfl rfl hb8.h ?_
          refine WO_p (PS_conv_i64n Hvac.runUnderlying5 Hvac.runUnderlying3 rfl (by omega) (by omega)) ?_
          refine WO_guardT rfl rfl hb8.h ?_
          refine WO_p (PS_eql rfl rfl) ?_
          refine WO_p (PS_pickT rfl hb8.h rfl) ?_
          refine WO_nil ?_
          refine thn_normal ?_
          refine W_if rfl (fun hb10 => ?_) (fun hb10 => ?_)
          · have hb10p := hb10.h; try simp only [al_ete, al_dfn, Bool.not_eq_true', Bool.not_eq_false', al_ne, Bool.not_not, al_nn] at hb10p
            have hu2 := hb10p
            have hke : kuvs.getD t (0, 0) = (x, y) := Prod.ext (by omega) (by omega)
            refine W_seq ?_
            have hlt9 := kuvs_lt t (by omega)
            have hmb := mul_bd (a := (t:Int) + 1) (b := (t:Int) + 2) (A := 25) (B := 26) (by omega) (by omega) (by omega) (by omega)
            refine W_region rfl ?_
            refine WO_p (PS_move_int rfl) ?_
            refine WO_p (PS_add_i64n rfl rfl (by omega) (by omega)) ?_
            refine WO_p (PS_move_int rfl) ?_
            refine WO_p (PS_add_i64n rfl rfl (by omega) (by omega)) ?_
            refine WO_p (PS_mul_i64n rfl rfl (by omega) (by omega)) ?_
            refine WO_p (PS_quo_i64 rfl rfl (by omega) (by omega) (by omega)) ?_
            refine WO_p (PS_rem_i64 rfl rfl (by omega) (by omega)) ?_
            refine WO_p (PS_conv_u8n Hvac.runUnderlying3 Hvac.runUnderlying5 rfl (by omega) (by omega)) ?_
            refine WO_p (PS_assign_int rfl) ?_
            refine WO_nil ?_
            refine thn_normal ?_
            refine W_ret ?_
            refine thn_ret ?_
            refine inBlk_ret ?_
            refine thn_ret ?_
            refine thn_ret ?_
            refine inBlk_ret ?_
            refine thn_ret ?_
            refine bodyQ_ret1 Hvac.results360 rfl (.int _ _) rfl ?_
            first
            | exact ⟨(by repeat (first | assumption | exact Ext.refl _ | refine Ext.alloc ?_ _ | refine Ext.drew ?_ | refine Ext.setB ?_ (by first | omega | (simp only [size_alloc, size_setB, size_drew]; omega)) _ | refine Ext.trans ?_ (by assumption))), congrArg (Value.int .u8) (by have := kuvs_off t (by omega); rw [hke] at this; rw [this]; exact koff_num t)⟩
            | exact ⟨(by repeat (first | assumption | exact Ext.refl _ | refine Ext.alloc ?_ _ | refine Ext.drew ?_ | refine Ext.setB ?_ (by first | omega | (simp only [size_alloc, size_setB, size_drew]; omega)) _ | refine Ext.trans ?_ (by assumption))), congrArg (Value.int .u8) (by rw [kuvs_none x hx y hy (fun j hj => hne j (by omega))]; rfl)⟩
          · have hb10p := hb10.h; try simp only [al_ete, al_dfn, Bool.not_eq_true', Bool.not_eq_false', al_ne, Bool.not_not, al_nn] at hb10p
            have hu2 := hb10p
            have hnk : kuvs.getD t (0, 0) ≠ (x, y) := fun e => by rw [e] at hu2; exact hu2 rfl
            refine W_skip ?_
            refine thn_normal ?_
            have hlt9 := kuvs_lt t (by omega)
            refine W_region rfl ?_
            refine WO_p (PS_move_int rfl) ?_
            refine WO_p (PS_move_int rfl) ?_
            refine WO_p (PS_mul_i64n rfl rfl (by omega) (by omega)) ?_
            refine WO_p (PS_move_int rfl) ?_
            refine WO_p (PS_mul_i64n rfl rfl (by omega) (by omega)) ?_
            refine WO_p (PS_add_i64n rfl rfl (by omega) (by omega)) ?_
            refine WO_p (PS_rem_i64 rfl rfl (by omega) (by omega)) ?_
            refine WO_p (PS_assign_int rfl) ?_
            refine WO_p (PS_assign_int rfl) ?_
            refine WO_nil ?_
            refine inBlk_normal ?_
            refine thn_normal ?_
            refine W_region rfl ?_
            refine WO_p (PS_move_int rfl) ?_
            refine WO_p (PS_add_i64n rfl rfl (by omega) (by omega)) ?_
            refine WO_p (PS_assign_int rfl) ?_
            refine WO_nil ?_
            refine thn_normal ?_
            exact ⟨m - 1, by omega, t + 1, by omega, fun j hj => by rcases Nat.lt_or_ge j t with h9 | h9; (· exact hne j h9); (rw [show j = t by omega]; exact hnk), ⟨rfl, rfl, congrArg (Value.int .i64) (by rw [kuvs_step t (by omega)]), congrArg (Value.int .i64) (by rw [kuvs_step t (by omega)]; omega), congrArg (Value.int .i64) (by omega), trivial⟩, (by repeat (first | assumption | exact Ext.refl _ | refine Ext.alloc ?_ _ | refine Ext.drew ?_ | refine Ext.setB ?_ (by first | omega | (simp only [size_alloc, size_setB, size_drew]; omega)) _ | refine Ext.trans ?_ (by assumption)))⟩
        · have hb8p := hb8.h; try simp only [al_ete, al_dfn, Bool.not_eq_true', Bool.not_eq_false', al_ne, Bool.not_not, al_nn] at hb8p
          have hu1 := hb8p
          have hnk : kuvs.getD t (0, 0) ≠ (x, y) := fun e => by rw [e] at hu1; exact hu1 rfl
          refine WO_guardF rfl rfl hb8.h ?_
          refine WO_guardF rfl rfl hb8.h ?_
          refine WO_guardF rfl rfl hb8.h ?_
          refine WO_guardF rfl rfl hb8.h ?_
          refine WO_p (PS_pickF rfl hb8.h rfl) ?_
          refine WO_nil ?_
          refine thn_normal ?_
          refine W_condF rfl rfl ?_
          refine W_skip ?_
          refine thn_normal ?_
          have hlt9 := kuvs_lt t (by omega)
          refine W_region rfl ?_
          refine WO_p (PS_move_int rfl) ?_
          refine WO_p (PS_move_int rfl) ?_
          refine WO_p (PS_mul_i64n rfl rfl (by omega) (by omega)) ?_
          refine WO_p (PS_move_int rfl) ?_
          refine WO_p (PS_mul_i64n rfl rfl (by omega) (by omega)) ?_
          refine WO_p (PS_add_i64n rfl rfl (by omega) (by omega)) ?_
          refine WO_p (PS_rem_i64 rfl rfl (by omega) (by omega)) ?_
          refine WO_p (PS_assign_int rfl) ?_
          refine WO_p (PS_assign_int rfl) ?_
          refine WO_nil ?_
          refine inBlk_normal ?_
          refine thn_normal ?_
          refine W_region rfl ?_
          refine WO_p (PS_move_int rfl) ?_
          refine WO_p (PS_add_i64n rfl rfl (by omega) (by omega)) ?_
          refine WO_p (PS_assign_int rfl) ?_
          refine WO_nil ?_
          refine thn_normal ?_
          exact ⟨m - 1, by omega, t + 1, by omega, fun j hj => by rcases Nat.lt_or_ge j t with h9 | h9; (· exact hne j h9); (rw [show j = t by omega]; exact hnk), ⟨rfl, rfl, congrArg (Value.int .i64) (by rw [kuvs_step t (by omega)]), congrArg (Value.int .i64) (by rw [kuvs_step t (by omega)]; omega), congrArg (Value.int .i64) (by omega), trivial⟩, (by repeat (first | assumption | exact Ext.refl _ | refine Ext.alloc ?_ _ | refine Ext.drew ?_ | refine Ext.setB ?_ (by first | omega | (simp only [size_alloc, size_setB, size_drew]; omega)) _ | refine Ext.trans ?_ (by assumption)))⟩
      · have hb6p := hb6.h; try simp only [al_ete, al_dfn, Bool.not_eq_true', Bool.not_eq_false', al_ne, Bool.not_not, al_nn] at hb6p
        refine W_exit ?_
        refine thn_exit ?_
        refine thn_exit ?_
        refine inBlk_exit ?_
        refine thn_normal ?_
        refine W_seq ?_
        refine W_region rfl ?_
        refine WO_p (PS_assign_int rfl) ?_
        refine WO_nil ?_
        refine thn_normal ?_
        refine W_ret ?_
        refine bodyQ_ret1 Hvac.results360 rfl (.int _ _) rfl ?_
        first
        | exact ⟨(by repeat (first | assumption | exact Ext.refl _ | refine Ext.alloc ?_ _ | refine Ext.drew ?_ | refine Ext.setB ?_ (by first | omega | (simp only [size_alloc, size_setB, size_drew]; omega)) _ | refine Ext.trans ?_ (by assumption))), congrArg (Value.int .u8) (by have := kuvs_off t (by omega); rw [hke] at this; rw [this]; exact koff_num t)⟩
        | exact ⟨(by repeat (first | assumption | exact Ext.refl _ | refine Ext.alloc ?_ _ | refine Ext.drew ?_ | refine Ext.setB ?_ (by first | omega | (simp only [size_alloc, size_setB, size_drew]; omega)) _ | refine Ext.trans ?_ (by assumption))), congrArg (Value.int .u8) (by rw [kuvs_none x hx y hy (fun j hj => hne j (by omega))]; rfl)⟩

set_option maxRecDepth 10000 in
theorem kbit_ex (q : Bool) (w : World) : Ret Hvac.prog 361 #[.bool q] w fun u w' => Ext w w' ∧ u = .int .u8 (if q = true then 1 else 0) := by
  refine Ret_of_W Hvac.func361 rfl rfl ?_
  refine W_seq ?_
  refine W_region rfl ?_
  refine WO_p (PS_assign_int rfl) ?_
  refine WO_nil ?_
  refine thn_normal ?_
  refine W_seq ?_
  refine W_region rfl ?_
  refine WO_p (PS_assign_int rfl) ?_
  refine WO_nil ?_
  refine thn_normal ?_
  refine W_seq ?_
  refine W_seq ?_
  refine W_region rfl ?_
  refine WO_p (PS_move_bool rfl) ?_
  refine WO_nil ?_
  refine thn_normal ?_
  refine W_if rfl (fun hb2 => ?_) (fun hb2 => ?_)
  · have hb2p := hb2.h; try simp only [al_ete, al_dfn, Bool.not_eq_true', Bool.not_eq_false', al_ne, Bool.not_not, al_nn] at hb2p
    have hq := hb2p
    refine W_region rfl ?_
    refine WO_p (PS_assign_int rfl) ?_
    refine WO_nil ?_
    refine thn_normal ?_
    refine W_seq ?_
    refine W_region rfl ?_
    refine WO_p (PS_move_int rfl) ?_
    refine WO_p (PS_assign_int rfl) ?_
    refine WO_nil ?_
    refine thn_normal ?_
    refine W_ret ?_
    refine bodyQ_ret1 Hvac.results361 rfl (.int _ _) rfl ?_
    exact ⟨(by repeat (first | assumption | exact Ext.refl _ | refine Ext.alloc ?_ _ | refine Ext.drew ?_ | refine Ext.setB ?_ (by first | omega | (simp only [size_alloc, size_setB, size_drew]; omega)) _ | refine Ext.trans ?_ (by assumption))), by rw [hq]; rfl⟩
  · have hb2p := hb2.h; try simp only [al_ete, al_dfn, Bool.not_eq_true', Bool.not_eq_false', al_ne, Bool.not_not, al_nn] at hb2p
    have hq := hb2p
    refine W_skip ?_
    refine thn_normal ?_
    refine W_seq ?_
    refine W_region rfl ?_
    refine WO_p (PS_move_int rfl) ?_
    refine WO_p (PS_assign_int rfl) ?_
    refine WO_nil ?_
    refine thn_normal ?_
    refine W_ret ?_
    refine bodyQ_ret1 Hvac.results361 rfl (.int _ _) rfl ?_
    exact ⟨(by repeat (first | assumption | exact Ext.refl _ | refine Ext.alloc ?_ _ | refine Ext.drew ?_ | refine Ext.setB ?_ (by first | omega | (simp only [size_alloc, size_setB, size_drew]; omega)) _ | refine Ext.trans ?_ (by assumption))), by rw [hq]; rfl⟩

end Go.Proofs.YgvacwGreat
