import Derived.Test.YgvacwGreatJg
import Derived.Test.YgvacwGreatXa
import Derived.Test.YgvacwGreatFwP
import Derived.Test.YgvacwGreatMr
import Derived.Test.YgvacwGreatRh
namespace Go.Proofs.YgvacwGreat
set_option linter.unusedSimpArgs false
set_option linter.unusedVariables false
/-- M laid into L at o -/
def mid (L : List Int) (o : Nat) (M : List Int) : List Int := L.take o ++ M ++ L.drop (o + M.length)
theorem mid_nil (L : List Int) (o : Nat) : mid L o [] = L := by simp [mid]
theorem mid_len {L M : List Int} {o : Nat} (h : o + M.length ≤ L.length) : (mid L o M).length = L.length := by simp [mid]; omega
theorem getD_mid {L M : List Int} {o : Nat} (h : o + M.length ≤ L.length) (k : Nat) : (mid L o M).getD k 0 = if k < o then L.getD k 0 else if k < o + M.length then M.getD (k - o) 0 else L.getD k 0 := by
  have ht : (L.take o).length = o := by rw [List.length_take]; omega
  unfold mid
  rw [List.getD_eq_getElem?_getD, List.getElem?_append, List.getElem?_append, List.length_append, ht, List.getElem?_take, List.getElem?_drop]
  by_cases h1 : k < o
  · rw [if_pos (by omega), if_pos h1, if_pos h1, if_pos h1]; simp [List.getD_eq_getElem?_getD]
  · by_cases h2 : k < o + M.length
    · rw [if_pos h2, if_neg h1, if_neg h1, if_pos h2]; simp [List.getD_eq_getElem?_getD]
    · rw [if_neg h2, if_neg h1, if_neg h2, show o + M.length + (k - (o + M.length)) = k by omega]; simp [List.getD_eq_getElem?_getD]
section
variable {P : Program} {ρ : Nat → Value} {w : World} {ops : Array Oper} {Q : Post} {os : List Oper} {x y : Operand} {ty t e : TypeId} {dT sT : TypeId} {dd : Option Nat}
theorem WO_clearTX {b o n cp : Nat} {T : TypeId} {L : List Int} {p : Option Addr} {pos : _} {af : _} (hU : ∀ w, (underlying dT).run P w = .ok (.slice e) w) (hz : ∀ w, (zeroValue e).run P w = .ok (.int .u8 0) w) (hx : ev ρ x = .slice p n cp) (hp : 0 < n → p = some ⟨b, o, none⟩)
    (hb : Hb w b (.cells (ic .u8 L) T (0, 0))) (hk : o + n ≤ L.length)
    (h : ∀ w' L', BufT b T L w w' L' → L' = mid L o (List.replicate n 0) → WO P ops Q os (updo ρ dd (.tuple #[])) w') : WO P ops Q (⟨dd, .call ⟨.builtin .clear, #[x], #[dT]⟩, ty, pos, af, none⟩ :: os) ρ w := by
  rcases Nat.eq_zero_or_pos n with h0 | h0
  · subst h0; exact WO_clear0 hU hx (h w L (BufT.refl hb) (mid_nil _ _).symm)
  · have hx' := hp h0
    subst hx'
    exact WO_clear hU hz hx hb.h (by rw [size_ic]; exact hk) h0 (h _ _ (BufT.set hb (by simpa using hk) (by_zero n)) rfl)
theorem WO_copyTX {b o dl dc b2 : Nat} {T : TypeId} {L L2 : List Int} {p p2 : Option Addr} {sl sc : Nat} {pos : _} {af : _} (hU : ∀ w, (underlying dT).run P w = .ok (.slice e) w) (hS : ∀ w, (Go.sizeOf e).run P w = .ok 1 w)
    (hx : ev ρ x = .slice p dl dc) (hy : ev ρ y = .slice p2 sl sc) (hp : 0 < dl → p = some ⟨b, o, none⟩) (hb : Hb w b (.cells (ic .u8 L) T (0, 0))) (hk : o + dl ≤ L.length) (hs : SC w .u8 1 (p2, sl, sc) L2) (hL2 : By8 L2)
    (h : ∀ w' L', BufT b T L w w' L' → L' = mid L o (L2.take (Nat.min sl dl)) → WO P ops Q os (updo ρ dd (Value.int .i64 (Nat.min sl dl : Nat))) w') : WO P ops Q (⟨dd, .call ⟨.builtin .copy, #[x, y], #[dT, sT]⟩, ty, pos, af, none⟩ :: os) ρ w := by
  obtain ⟨h1, h2⟩ := hs
  simp only [Nat.mul_one] at h1 h2
  rcases h2 with ⟨h2, h3⟩ | ⟨b', o', r, T', fz, h2, h3, h4, h5⟩
  · subst h2; subst h3
    have hm : Nat.min 0 dl = 0 := Nat.zero_min dl
    rw [hm] at h
    exact WO_copy0 hU hS hx hy (h w L (BufT.refl hb) (mid_nil _ _).symm)
  · subst h2
    rcases Nat.eq_zero_or_pos dl with h0 | h0
    · subst h0
      have hm : Nat.min sl 0 = 0 := Nat.min_zero sl
      rw [hm] at h
      refine WO_cons ?_
      have e1 : Array.map (ev ρ) #[x, y] = #[.slice p 0 dc, .slice (some ⟨b', o', none⟩) sl sc] := by simp [hx, hy]
      have hl := run_loadCells_hp (P := P) (w := w) (o := o') (n := 0 * 1) h3.h (by omega)
      have hfin : (Builtin.copy_ #[dT, sT] ty #[.slice p 0 dc, .slice (some ⟨b', o', none⟩) sl sc]).run P w = .ok (goInt 0) w := by
        simp only [Builtin.copy_, Builtin.lenOf, Builtin.firstCells, Sem.run_bind, Sem.run_pure, Result.andThen_ok, hU, hS, hm, hl]
        cases p <;> simp only [List.getElem?_toArray, List.getElem?_cons_zero, List.getElem?_cons_succ, Sem.run_bind, Sem.run_pure, Result.andThen_ok, hU, hS, hm, hl] <;> simp [storeCells, hl, hm, hU, hS]
      simp only [stepo, execOp, resolve, invoke, builtin, e1, hfin, Sem.run_bind, Sem.run_pure, Result.andThen_ok]
      exact h w L (BufT.refl hb) (mid_nil _ _).symm
    · have hx' := hp h0
      subst hx'
      have hmin : Nat.min sl dl ≤ sl := Nat.min_le_left _ _
      have hmin2 : Nat.min sl dl ≤ dl := Nat.min_le_right _ _
      have hxt : r.extract o' (o' + Nat.min sl dl * 1) = ic .u8 (L2.take (Nat.min sl dl)) := by
        rw [Nat.mul_one]
        have e2 : r.extract o' (o' + Nat.min sl dl) = (r.extract o' (o' + sl)).extract 0 (Nat.min sl dl) := by
          rw [Array.extract_extract]; congr 1 <;> omega
        rw [e2, h5.h]
        refine Array.ext_getElem? fun i => ?_
        rw [Array.getElem?_extract, size_ic]
        simp only [ic, List.getElem?_toArray, List.getElem?_map, List.getElem?_take, Nat.zero_add]
        by_cases hi : i < Nat.min sl dl
        · rw [if_pos (by omega), if_pos hi]
        · rw [if_neg (by omega), if_neg hi]; rfl
      have hlt : (L2.take (Nat.min sl dl)).length = Nat.min sl dl := by rw [List.length_take]; omega
      refine WO_copy (Nat.min sl dl) hU hS hx hy hb.h h3.h rfl (by rw [size_ic]; omega) (by omega) hxt (by intro u hu; exact one_map .u8 _ u hu) ?_
      exact h _ _ (BufT.set hb (by omega) (fun z hz => hL2 z (List.mem_of_mem_take hz))) rfl
end
section
variable {P : Program} {ops : Array Oper} {S : World → Prop} {Q : Post} {d : Nat} {t ty : TypeId} {pos : String} {af : Array Edge} {os : List Oper} {os' : List TOp} {ρ : Nat → Value} {w : World} {x : Operand} {tg : Bool}
theorem WH_copyTX {b o dl dc b2 : Nat} {T dT sT e : TypeId} {L L2 : List Int} {p p2 : Option Addr} {sl sc : Nat} {dd : Option Nat} {y : Operand} (hU : ∀ w, (underlying dT).run P w = .ok (.slice e) w) (hS : ∀ w, (Go.sizeOf e).run P w = .ok 1 w)
    (hx : ev ρ x = .slice p dl dc) (hy : ev ρ y = .slice p2 sl sc) (hp : 0 < dl → p = some ⟨b, o, none⟩) (hb : Hb w b (.cells (ic .u8 L) T (0, 0))) (hk : o + dl ≤ L.length) (hs : SC w .u8 1 (p2, sl, sc) L2) (hL2 : By8 L2) (hdl : 0 < dl)
    (h : ∀ w' L', BufT b T L w w' L' → L' = mid L o (L2.take (Nat.min sl dl)) → (tg = true → S w') ∧ WH P ops S Q os' (updo ρ dd (Value.int .i64 (Nat.min sl dl : Nat))) w') : WH P ops S Q ((⟨dd, .call ⟨.builtin .copy, #[x, y], #[dT, sT]⟩, ty, pos, af, none⟩, tg) :: os') ρ w := by
  obtain ⟨h1, h2⟩ := hs
  simp only [Nat.mul_one] at h1 h2
  have hx' := hp hdl
  subst hx'
  rcases h2 with ⟨h2, h3⟩ | ⟨b', o', r, T', fz, h2, h3, h4, h5⟩
  · subst h2; subst h3
    have hm : Nat.min 0 dl = 0 := Nat.zero_min dl
    rw [hm] at h
    exact WH_copy0 hU hS hx hy (h w L (BufT.refl hb) (mid_nil _ _).symm).1 (h w L (BufT.refl hb) (mid_nil _ _).symm).2
  · subst h2
    have hmin : Nat.min sl dl ≤ sl := Nat.min_le_left _ _
    have hmin2 : Nat.min sl dl ≤ dl := Nat.min_le_right _ _
    have hxt : r.extract o' (o' + Nat.min sl dl * 1) = ic .u8 (L2.take (Nat.min sl dl)) := by
      rw [Nat.mul_one]
      have e2 : r.extract o' (o' + Nat.min sl dl) = (r.extract o' (o' + sl)).extract 0 (Nat.min sl dl) := by
        rw [Array.extract_extract]; congr 1 <;> omega
      rw [e2, h5.h]
      refine Array.ext_getElem? fun i => ?_
      rw [Array.getElem?_extract, size_ic]
      simp only [ic, List.getElem?_toArray, List.getElem?_map, List.getElem?_take, Nat.zero_add]
      by_cases hi : i < Nat.min sl dl
      · rw [if_pos (by omega), if_pos hi]
      · rw [if_neg (by omega), if_neg hi]; rfl
    have hlt : (L2.take (Nat.min sl dl)).length = Nat.min sl dl := by rw [List.length_take]; omega
    have hh := h _ _ (BufT.set (o := o) (M := L2.take (Nat.min sl dl)) hb (by omega) (fun z hz => hL2 z (List.mem_of_mem_take hz))) rfl
    exact WH_copy (Nat.min sl dl) hU hS hx hy hb.h h3.h rfl (by rw [size_ic]; omega) (by omega) hxt (by intro u hu; exact one_map .u8 _ u hu) hh.1 hh.2
end
/-! bytes and words -/
theorem getD_appI {A B : List Int} (k : Nat) : (A ++ B).getD k 0 = if k < A.length then A.getD k 0 else B.getD (k - A.length) 0 := by
  rw [List.getD_eq_getElem?_getD, List.getD_eq_getElem?_getD, List.getD_eq_getElem?_getD, List.getElem?_append]
  split <;> rfl
theorem list_gd {A B : List Int} (hl : A.length = B.length) (h : ∀ i, i < A.length → A.getD i 0 = B.getD i 0) : A = B := by
  refine List.ext_getElem hl fun i h1 h2 => ?_
  have := h i h1
  simpa [List.getD_eq_getElem?_getD, List.getElem?_eq_getElem h1, List.getElem?_eq_getElem h2] using this
theorem tv_dv {s : List Int} (hs : By s 32) : ∀ k, k ≤ 32 → tv s k = ((dv (s.reverse.take k) : Nat) : Int)
  | 0, _ => by simp [tv, dv]
  | k + 1, hk => by
    have hl := hs.1
    have hg : s.reverse.getD k 0 = s.getD (31 - k) 0 := by
      rw [List.getD_eq_getElem?_getD, List.getD_eq_getElem?_getD, List.getElem?_reverse (by omega), hl]
    have hb := getD_byte hs.2 (31 - k)
    rw [dv_take_succ _ _ (by rw [List.length_reverse]; omega), hg]
    show s.getD (31 - k) 0 * 256 ^ k + tv s k = _
    rw [tv_dv hs k (by omega)]
    have e : ((256 ^ k * (s.getD (31 - k) 0).toNat : Nat) : Int) = s.getD (31 - k) 0 * 256 ^ k := by
      rw [Int.natCast_mul, Int.toNat_of_nonneg hb.1, Int.mul_comm]; simp
    rw [Int.natCast_add, e]; omega
theorem wn_fromB {A : List Int} (h : By A 32) : wn (fromB A) = bvY A := by
  refine wn_of ?_
  rw [wv_fromB, tv_dv h 32 (Nat.le_refl _), List.take_of_length_le (by rw [List.length_reverse, h.1]; exact Nat.le_refl _)]
  rfl
theorem be32_be {W : List Int} (h : Wd W) : be32 W = be 32 (wn W) := by
  obtain ⟨a, b, c, d, rfl, ha, hb, hc, hd⟩ := isZ h
  have e : ∀ n, be 32 n = [((n / 256 ^ 31 % 256 : Nat) : Int), ((n / 256 ^ 30 % 256 : Nat) : Int), ((n / 256 ^ 29 % 256 : Nat) : Int), ((n / 256 ^ 28 % 256 : Nat) : Int), ((n / 256 ^ 27 % 256 : Nat) : Int), ((n / 256 ^ 26 % 256 : Nat) : Int), ((n / 256 ^ 25 % 256 : Nat) : Int), ((n / 256 ^ 24 % 256 : Nat) : Int), ((n / 256 ^ 23 % 256 : Nat) : Int), ((n / 256 ^ 22 % 256 : Nat) : Int), ((n / 256 ^ 21 % 256 : Nat) : Int), ((n / 256 ^ 20 % 256 : Nat) : Int), ((n / 256 ^ 19 % 256 : Nat) : Int), ((n / 256 ^ 18 % 256 : Nat) : Int), ((n / 256 ^ 17 % 256 : Nat) : Int), ((n / 256 ^ 16 % 256 : Nat) : Int), ((n / 256 ^ 15 % 256 : Nat) : Int), ((n / 256 ^ 14 % 256 : Nat) : Int), ((n / 256 ^ 13 % 256 : Nat) : Int), ((n / 256 ^ 12 % 256 : Nat) : Int), ((n / 256 ^ 11 % 256 : Nat) : Int), ((n / 256 ^ 10 % 256 : Nat) : Int), ((n / 256 ^ 9 % 256 : Nat) : Int), ((n / 256 ^ 8 % 256 : Nat) : Int), ((n / 256 ^ 7 % 256 : Nat) : Int), ((n / 256 ^ 6 % 256 : Nat) : Int), ((n / 256 ^ 5 % 256 : Nat) : Int), ((n / 256 ^ 4 % 256 : Nat) : Int), ((n / 256 ^ 3 % 256 : Nat) : Int), ((n / 256 ^ 2 % 256 : Nat) : Int), ((n / 256 ^ 1 % 256 : Nat) : Int), ((n / 256 ^ 0 % 256 : Nat) : Int)] := fun n => rfl
  rw [e]
  refine list_gd rfl fun i hi => ?_
  have hi : i < 32 := hi
  have hw := byte_wn ha hb hc hd hi
  have hL : (be32 [a, b, c, d]).getD i 0 = (([a, b, c, d].getD (3 - i / 8) 0).toNat / 256 ^ (7 - i % 8) % 256 : Nat) := by
    have ex : ∀ x : Int, 0 ≤ x ∧ x ≤ 18446744073709551615 → ∀ r, r < 8 → (eb8 x).getD r 0 = ((x.toNat / 256 ^ (7 - r) % 256 : Nat) : Int) := by
      intro x hx r hr
      have h9 : r = 0 ∨ r = 1 ∨ r = 2 ∨ r = 3 ∨ r = 4 ∨ r = 5 ∨ r = 6 ∨ r = 7 := by omega
      rcases h9 with rfl | rfl | rfl | rfl | rfl | rfl | rfl | rfl <;> simp only [eb8, List.getD_cons_zero, List.getD_cons_succ, Nat.reduceSub, Nat.reducePow, Int.reducePow] <;> omega
    have h8 : ∀ x, (eb8 x).length = 8 := fun x => rfl
    unfold be32
    rw [getD_appI, getD_appI, getD_appI]
    simp only [h8]
    have h9 : i / 8 = 0 ∨ i / 8 = 1 ∨ i / 8 = 2 ∨ i / 8 = 3 := by omega
    rcases h9 with h9 | h9 | h9 | h9
    · rw [if_pos (by omega), h9, show i % 8 = i by omega]; exact ex d hd i (by omega)
    · rw [if_neg (by omega), if_pos (by omega), h9, show i % 8 = i - 8 by omega]; exact ex c hc _ (by omega)
    · rw [if_neg (by omega), if_neg (by omega), if_pos (by omega), h9, show i % 8 = i - 8 - 8 by omega]; exact ex b hb _ (by omega)
    · rw [if_neg (by omega), if_neg (by omega), if_neg (by omega), h9, show i % 8 = i - 8 - 8 - 8 by omega]; exact ex a ha _ (by omega)
  rw [hL, ← e, be_gd 32 _ i hi, ← hw]
theorem be_drop (n k j : Nat) (h : j ≤ k) : (be k n).drop j = be (k - j) n := by
  refine list_gd (by rw [List.length_drop, be_len, be_len]) fun i hi => ?_
  rw [List.length_drop, be_len] at hi
  rw [be_gd _ _ _ hi]
  have : ((be k n).drop j).getD i 0 = (be k n).getD (j + i) 0 := by simp [List.getD_eq_getElem?_getD, List.getElem?_drop]
  rw [this, be_gd _ _ _ (by omega), show k - 1 - (j + i) = k - j - 1 - i by omega]
theorem addrW_y {W : List Int} (h : Wd W) : addrW W = yaddr (wn W) := by
  unfold addrW yaddr
  rw [be32_be h, be_drop _ _ _ (by decide)]
theorem bv_zeros_app (n : Nat) (A : List Int) : bvY (List.replicate n 0 ++ A) = bvY A := by
  unfold bvY
  rw [List.reverse_append, dv_append, List.reverse_replicate, dv_rep0]; simp
end Go.Proofs.YgvacwGreat
