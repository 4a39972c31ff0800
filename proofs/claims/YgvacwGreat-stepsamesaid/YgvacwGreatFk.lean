import Derived.Test.YgvacwGreatFj
import Derived.Test.YgvacwGreatTb
import Derived.Test.YgvacwGreatHv
import Derived.Test.YgvacwGreatJl
namespace Go.Proofs.YgvacwGreat
set_option linter.unusedSimpArgs false
set_option linter.unusedVariables false
theorem limb_bits {W : List Int} (hW : Wd W) {n ln : Nat} (hn4 : n ≤ 4) (hn : 0 < n) (hz : ∀ k, n ≤ k → W.getD k 0 = 0) (hnz : W.getD (n - 1) 0 ≠ 0) (hL : Ln (W.getD (n - 1) 0) ln) (hl1 : 1 ≤ ln) : wn W < 2 ^ (64 * (n - 1) + ln) ∧ 2 ^ (64 * (n - 1) + (ln - 1)) ≤ wn W := by
  obtain ⟨a, b, c, d, rfl, ha, hb, hc, hd⟩ := isZ hW
  have hwn := wn_limbs ha hb hc hd
  have hp : (2 : Int) ^ ln = 2 * ((2 ^ (ln - 1) : Nat) : Int) := by
    rw [show ln = (ln - 1) + 1 by omega, Int.pow_succ]
    simp; omega
  have hl : (2 : Nat) ^ ln = 2 * 2 ^ (ln - 1) := by
    conv => lhs; rw [show ln = (ln - 1) + 1 by omega, Nat.pow_succ]
    omega
  generalize hq : (2 ^ (ln - 1) : Nat) = q at *
  rcases (by omega : n = 1 ∨ n = 2 ∨ n = 3 ∨ n = 4) with hh | hh | hh | hh
  · subst hh
    have z1 := hz 1 (by omega)
    have z2 := hz 2 (by omega)
    have z3 := hz 3 (by omega)
    simp only [List.getD_cons_succ, List.getD_cons_zero] at z1 z2 z3
    have h1 : a < 2 ^ ln := hL.1
    have h2 : a ≠ 0 → (2:Int) ^ ln ≤ 2 * a := hL.2
    have hx0 : a ≠ 0 := hnz
    have h3 := h2 hx0
    rw [hp] at h1 h3
    refine ⟨?_, ?_⟩
    · rw [Nat.pow_add, hl, show (2:Nat) ^ (64 * (1 - 1)) = 1 from by decide, hwn]; omega
    · rw [Nat.pow_add, show (2:Nat) ^ (64 * (1 - 1)) = 1 from by decide, hwn, hq]; omega
  · subst hh
    have z2 := hz 2 (by omega)
    have z3 := hz 3 (by omega)
    simp only [List.getD_cons_succ, List.getD_cons_zero] at z2 z3
    have h1 : b < 2 ^ ln := hL.1
    have h2 : b ≠ 0 → (2:Int) ^ ln ≤ 2 * b := hL.2
    have hx0 : b ≠ 0 := hnz
    have h3 := h2 hx0
    rw [hp] at h1 h3
    refine ⟨?_, ?_⟩
    · rw [Nat.pow_add, hl, show (2:Nat) ^ (64 * (2 - 1)) = 18446744073709551616 from by decide, hwn]; omega
    · rw [Nat.pow_add, show (2:Nat) ^ (64 * (2 - 1)) = 18446744073709551616 from by decide, hwn, hq]; omega
  · subst hh
    have z3 := hz 3 (by omega)
    simp only [List.getD_cons_succ, List.getD_cons_zero] at z3
    have h1 : c < 2 ^ ln := hL.1
    have h2 : c ≠ 0 → (2:Int) ^ ln ≤ 2 * c := hL.2
    have hx0 : c ≠ 0 := hnz
    have h3 := h2 hx0
    rw [hp] at h1 h3
    refine ⟨?_, ?_⟩
    · rw [Nat.pow_add, hl, show (2:Nat) ^ (64 * (3 - 1)) = 340282366920938463463374607431768211456 from by decide, hwn]; omega
    · rw [Nat.pow_add, show (2:Nat) ^ (64 * (3 - 1)) = 340282366920938463463374607431768211456 from by decide, hwn, hq]; omega
  · subst hh
    have h1 : d < 2 ^ ln := hL.1
    have h2 : d ≠ 0 → (2:Int) ^ ln ≤ 2 * d := hL.2
    have hx0 : d ≠ 0 := hnz
    have h3 := h2 hx0
    rw [hp] at h1 h3
    refine ⟨?_, ?_⟩
    · rw [Nat.pow_add, hl, show (2:Nat) ^ (64 * (4 - 1)) = 6277101735386680763835789423207666416102355444464034512896 from by decide, hwn]; omega
    · rw [Nat.pow_add, show (2:Nat) ^ (64 * (4 - 1)) = 6277101735386680763835789423207666416102355444464034512896 from by decide, hwn, hq]; omega

theorem limb_ynb {W : List Int} (hW : Wd W) {n ln : Nat} (hn4 : n ≤ 4) (hn : 0 < n) (hz : ∀ k, n ≤ k → W.getD k 0 = 0) (hnz : W.getD (n - 1) 0 ≠ 0) (hL : Ln (W.getD (n - 1) 0) ln) (hl1 : 1 ≤ ln) : ynb (wn W) = 64 * (n - 1) + ln := by
  obtain ⟨h1, h2⟩ := limb_bits hW hn4 hn hz hnz hL hl1
  exact (ynb_of h1 (Or.inr (by rw [show 64 * (n - 1) + ln - 1 = 64 * (n - 1) + (ln - 1) by omega]; exact h2))).symm
theorem limb_zero {W : List Int} (hW : Wd W) (hz : ∀ k, 0 ≤ k → W.getD k 0 = 0) : wn W = 0 := by
  obtain ⟨a, b, c, d, rfl, ha, hb, hc, hd⟩ := isZ hW
  have hwn := wn_limbs ha hb hc hd
  have z0 := hz 0 (by omega)
  have z1 := hz 1 (by omega)
  have z2 := hz 2 (by omega)
  have z3 := hz 3 (by omega)
  simp only [List.getD_cons_succ, List.getD_cons_zero] at z0 z1 z2 z3
  rw [hwn]; omega
theorem bv_app (A B : List Int) : bvY (A ++ B) = bvY A * 256 ^ B.length + bvY B := by
  unfold bvY
  rw [List.reverse_append, dv_append, List.length_reverse, Nat.mul_comm, Nat.add_comm]
theorem bv_rep (k : Nat) (A : List Int) : bvY (List.replicate k 0 ++ A) = bvY A := by
  rw [bv_app]
  have : bvY (List.replicate k (0 : Int)) = 0 := by unfold bvY; rw [List.reverse_replicate]; exact dv_rep0 k
  rw [this]; omega
theorem be8_bv {p0 p1 p2 p3 p4 p5 p6 p7 : Int} (h0 : 0 ≤ p0 ∧ p0 ≤ 255) (h1 : 0 ≤ p1 ∧ p1 ≤ 255) (h2 : 0 ≤ p2 ∧ p2 ≤ 255) (h3 : 0 ≤ p3 ∧ p3 ≤ 255) (h4 : 0 ≤ p4 ∧ p4 ≤ 255) (h5 : 0 ≤ p5 ∧ p5 ≤ 255) (h6 : 0 ≤ p6 ∧ p6 ≤ 255) (h7 : 0 ≤ p7 ∧ p7 ≤ 255) : be8 p0 p1 p2 p3 p4 p5 p6 p7 = ((bvY [p0, p1, p2, p3, p4, p5, p6, p7] : Nat) : Int) := by
  unfold be8 bvY
  simp only [List.reverse_cons, List.reverse_nil, List.nil_append, List.cons_append, dv]
  omega
theorem bv_chunk {D : List Int} {o : Nat} (ho : o + 8 ≤ D.length) : bvY (D.drop o) = bvY ((D.drop o).take 8) * 256 ^ (D.length - (o + 8)) + bvY (D.drop (o + 8)) := by
  conv => lhs; rw [← List.take_append_drop 8 (D.drop o)]
  rw [bv_app, List.drop_drop, List.length_drop]
theorem put8_bv {D : List Int} {o : Nat} {x : Int} (ho : o + 8 ≤ D.length) (hx : 0 ≤ x ∧ x ≤ 18446744073709551615) : bvY ((put8 D o x).drop o) = x.toNat * 256 ^ (D.length - (o + 8)) + bvY (D.drop (o + 8)) := by
  have hl := put8_len D o x
  rw [bv_chunk (by rw [hl]; exact ho), hl]
  have e1 : ((put8 D o x).drop o).take 8 = be 8 x.toNat := by
    refine list_gd (by rw [be_len]; simp [hl]; omega) fun i hi => ?_
    have hi8 : i < 8 := by simp at hi; omega
    rw [List.getD_eq_getElem?_getD, List.getElem?_take, if_pos hi8, List.getElem?_drop, ← List.getD_eq_getElem?_getD, getD_put8 ho, if_pos (by omega), be_gd 8 _ i hi8, show o + i - o = i by omega, show 8 - 1 - i = 7 - i by omega]
    have e2 : (2 : Int) ^ (8 * (7 - i)) = ((256 ^ (7 - i) : Nat) : Int) := by rw [Int.pow_mul]; simp
    rw [e2]
    conv => lhs; rw [← Int.toNat_of_nonneg hx.1]
    rfl
  have e3 : (put8 D o x).drop (o + 8) = D.drop (o + 8) := by
    refine list_gd (by simp [hl]) fun i hi => ?_
    rw [List.getD_eq_getElem?_getD, List.getElem?_drop, ← List.getD_eq_getElem?_getD, getD_put8 ho, if_neg (by omega), List.getD_eq_getElem?_getD, List.getD_eq_getElem?_getD, List.getElem?_drop]
  rw [e1, e3, bv_be 8 _ (by have h := hx.2; have h0 := hx.1; simp; omega)]
theorem be_tail {k n N : Nat} (h : n ≤ k) : ((be k N).drop (k - n)).take n = be n N := by
  refine list_gd (by rw [be_len]; simp [be_len]; omega) fun i hi => ?_
  have hi8 : i < n := by simp [be_len] at hi; omega
  rw [List.getD_eq_getElem?_getD, List.getElem?_take, if_pos hi8, List.getElem?_drop, ← List.getD_eq_getElem?_getD, be_gd k _ _ (by omega), be_gd n _ i hi8, show k - 1 - (k - n + i) = n - 1 - i by omega]
theorem tail_ptrX {bd dl n : Nat} (h : n ≤ dl) : ∃ o, slp' (some ⟨bd, 0, none⟩) (dl - n) dl 1 = some ⟨bd, o, none⟩ ∧ o + n ≤ dl ∧ (0 < n → o = dl - n) := by
  rcases Nat.eq_zero_or_pos n with h0 | h0
  · subst h0; exact ⟨0, by unfold slp'; rw [if_pos (by omega)], by omega, fun h => absurd h (by omega)⟩
  · exact ⟨0 + (dl - n) * 1, slp'_some (by omega), by omega, fun _ => by omega⟩
theorem part_no {dl n off : Nat} {L : List Int} (hn : n ≤ dl) (hoff : L.length ≤ off) : List.replicate dl (0 : Int) = List.replicate (dl - n) 0 ++ ycut L off n := by
  have e : ycut L off n = List.replicate n 0 := by
    refine list_gd (by rw [ycut_len, List.length_replicate]) fun i hi => ?_
    rw [ycut_len] at hi
    rw [ycut_gd hi, List.getD_eq_getElem?_getD, List.getElem?_eq_none (by omega)]
    simp [List.getD_eq_getElem?_getD, List.getElem?_replicate, hi]
  rw [e, List.replicate_append_replicate]; congr 1; omega
theorem part_yes {dl n off en o : Nat} {L D5 : List Int} (hn : n ≤ dl) (ho : 0 < n → o = dl - n) (hoff : off < L.length) (hen : (en = off + n ∧ off + n ≤ L.length) ∨ (en = L.length ∧ L.length ≤ off + n)) (h : D5 = mid (List.replicate dl 0) o (((L.drop off).take (en - off)).take (Nat.min (en - off) n))) : D5 = List.replicate (dl - n) 0 ++ ycut L off n := by
  have hm : Nat.min (en - off) n = en - off := Nat.min_eq_left (by omega)
  rw [hm, List.take_take, Nat.min_self] at h
  have hl2 : ((L.drop off).take (en - off)).length = en - off := by simp; omega
  rcases Nat.eq_zero_or_pos n with h0 | h0
  · subst h0
    have : en - off = 0 := by omega
    rw [this, List.take_zero, mid_nil] at h
    rw [h]; unfold ycut; simp
  · have ho' := ho h0
    subst ho'
    have hml : dl - n + ((L.drop off).take (en - off)).length ≤ (List.replicate dl (0 : Int)).length := by rw [hl2, List.length_replicate]; omega
    rw [h]
    refine list_gd (by rw [mid_len hml, List.length_append, ycut_len, List.length_replicate, List.length_replicate]; omega) fun i hi => ?_
    rw [mid_len hml, List.length_replicate] at hi
    have r0 : ∀ k, (List.replicate dl (0 : Int)).getD k 0 = 0 := fun k => by
      rw [List.getD_eq_getElem?_getD, List.getElem?_replicate]; split <;> rfl
    rw [getD_mid hml, getD_appI, List.length_replicate, hl2, r0]
    by_cases h1 : i < dl - n
    · rw [if_pos h1, if_pos h1, List.getD_eq_getElem?_getD, List.getElem?_replicate]; split <;> rfl
    · rw [if_neg h1, if_neg h1, ycut_gd (by omega)]
      by_cases h2 : i < dl - n + (en - off)
      · rw [if_pos h2, List.getD_eq_getElem?_getD, List.getElem?_take, if_pos (by omega), List.getElem?_drop, ← List.getD_eq_getElem?_getD]
      · rw [if_neg h2, List.getD_eq_getElem?_getD, List.getElem?_eq_none (by omega)]; rfl
section
variable {P : Program} {ρ : Nat → Value} {w : World} {ops : Array Oper} {Q : Post} {os : List Oper} {x y : Operand} {ty t e : TypeId}
theorem WH_copyVX {S : World → Prop} {os' : List (Oper × Bool)} {tg : Bool} {pos : _} {af : _} {b o dl dc : Nat} {T dT sT : TypeId} {L L2 : List Int} {p2 : Option Addr} {sl sc : Nat} {dd : Option Nat} (hU : ∀ w, (underlying dT).run P w = .ok (.slice e) w) (hS : ∀ w, (Go.sizeOf e).run P w = .ok 1 w)
    (hx : ev ρ x = .slice (some ⟨b, o, none⟩) dl dc) (hy : ev ρ y = .slice p2 sl sc) (hb : Hb w b (.cells (ic .u8 L) T (0, 0))) (hk : o + dl ≤ L.length) (hs : SC w .u8 1 (p2, sl, sc) L2) (hL2 : By8 L2)
    (h : ∀ w' L', BufT b T L w w' L' → L' = mid L o (L2.take (Nat.min sl dl)) → (tg = true → S w') ∧ WH P ops S Q os' (updo ρ dd (Value.int .i64 (Nat.min sl dl : Nat))) w') : WH P ops S Q ((⟨dd, .call ⟨.builtin .copy, #[x, y], #[dT, sT]⟩, ty, pos, af, none⟩, tg) :: os') ρ w := by
  rcases Nat.eq_zero_or_pos dl with h0 | h0
  · subst h0
    obtain ⟨h1, h2⟩ := hs
    simp only [Nat.mul_one] at h1 h2
    have hm : Nat.min sl 0 = 0 := Nat.min_zero sl
    rw [hm, List.take_zero, mid_nil] at h
    rcases h2 with ⟨h2, h3⟩ | ⟨b', o', r, T', fz, h2, h3, h4, h5⟩
    · subst h2; subst h3
      exact WH_copy0 hU hS hx hy (h w L (BufT.refl hb) rfl).1 (h w L (BufT.refl hb) rfl).2
    · subst h2
      have hB : BufT b T L w (setB w b (.cells (splice (ic .u8 L) o ((#[] : Array Value).toList)) T (0, 0))) L := ⟨rfl, fun h => h, Hb.setSame hb, (KeepO.refl (fun x => x = b) w).setB (fun _ => rfl) _⟩
      exact WH_copy 0 (vs := #[]) hU hS hx hy hb.h h3.h hm (by rw [size_ic]; omega) (by omega) (by simp; exact Nat.min_le_left _ _) (by simp) (h _ _ hB rfl).1 (h _ _ hB rfl).2
  · exact WH_copyTX (b2 := 0) hU hS hx hy (fun _ => rfl) hb hk hs hL2 h0 h
end
theorem nw_of {R D : List Int} (hR : UL R) (h : lvr R 0 8 = ((bvY D : Nat) : Int)) : nw R = bvY D := by
  have := nw_int hR; omega
theorem lvr_step {R D : List Int} {i : Nat} {x : Int} (hl : D.length = 64) (hi : i < 8) (hr : R.length = 8) (h : lvr R 0 i = ((bvY (D.drop (64 - 8 * i)) : Nat) : Int)) (hx : x = ((bvY ((D.drop (56 - 8 * i)).take 8) : Nat) : Int)) : lvr (R.set i x) 0 (i + 1) = ((bvY (D.drop (64 - 8 * (i + 1))) : Nat) : Int) := by
  have e := lvr_set_last (L := R) (o := 0) (n := i) (y := x) (by omega)
  rw [Nat.zero_add] at e
  rw [e, h, hx, show 64 - 8 * (i + 1) = 56 - 8 * i by omega, bv_chunk (D := D) (o := 56 - 8 * i) (by omega), show 56 - 8 * i + 8 = 64 - 8 * i by omega, hl, show 64 - (64 - 8 * i) = 8 * i by omega, Nat.pow_mul, show 256 ^ 8 = 18446744073709551616 from by decide]
  have hp : ((18446744073709551616 ^ i : Nat) : Int) = (18446744073709551616 : Int) ^ i := by rw [Int.natCast_pow]; rfl
  rw [Int.natCast_add, Int.natCast_mul, hp, Int.add_comm]
theorem put_step {R D : List Int} {i : Nat} (hl : D.length = 64) (hi : i < 8) (hU : UL R) (h : lvr R 0 i = ((bvY (D.drop (64 - 8 * i)) : Nat) : Int)) : lvr R 0 (i + 1) = ((bvY ((put8 D (56 - 8 * i) (R.getD i 0)).drop (64 - 8 * (i + 1))) : Nat) : Int) := by
  have hx := hU.get i
  rw [lvr_succ, h, show 64 - 8 * (i + 1) = 56 - 8 * i by omega, put8_bv (by omega) hx, show 56 - 8 * i + 8 = 64 - 8 * i by omega, hl, show 64 - (64 - 8 * i) = 8 * i by omega, Nat.pow_mul, show 256 ^ 8 = 18446744073709551616 from by decide, Nat.zero_add]
  have := Int.toNat_of_nonneg hx.1
  have hp : ((18446744073709551616 ^ i : Nat) : Int) = (18446744073709551616 : Int) ^ i := by rw [Int.natCast_pow]; rfl
  rw [Int.natCast_add, Int.natCast_mul, hp, this, Int.add_comm]
theorem cost_cast (a b : Nat) : max (200 : Int) ((a : Int) * a * max (b : Int) 1 / 3) = ((max 200 (a * a * max b 1 / 3) : Nat) : Int) := by
  have h1 : max (b : Int) 1 = ((max b 1 : Nat) : Int) := by omega
  have h2 : (a : Int) * a * ((max b 1 : Nat) : Int) = ((a * a * max b 1 : Nat) : Int) := by rw [Int.natCast_mul, Int.natCast_mul]
  rw [h1, h2]
  generalize a * a * max b 1 = P
  omega
theorem ylenOk_3 {L : List Int} {N : List Int} (h : ∀ j, j < 3 → N.getD j 0 = (ylen1 L j : Int) ∧ ylen1 L j ≤ 64) : ylenOk L := ⟨(h 0 (by decide)).2, (h 1 (by decide)).2, (h 2 (by decide)).2⟩
theorem ynt1_of {L : List Int} {N : Nat} (h : N = ynb (ynhead L)) : ynt1 L = N - 1 := by
  unfold ynt1; rw [← h]; split <;> omega
theorem ynatc4 {L : List Int} {k : Nat} (h : k = 4) : ynatc k L = (15 + 3 * ywords L.length, true) := by unfold ynatc; rw [if_pos h]
theorem ynatc5 {L : List Int} {k : Nat} (h : k = 5) (ho : ylenOk L) : ynatc k L = (max 200 (ynwide L * ynwide L * max (ynturns L) 1 / 3), true) := by unfold ynatc; rw [if_neg (by omega), if_pos ⟨h, ho⟩]
theorem ynatc0 {L : List Int} {k : Nat} (h : k = 5) (ho : ¬ ylenOk L) : ynatc k L = (0, false) := by unfold ynatc; rw [if_neg (by omega), if_neg (fun h => ho h.2)]
theorem ynatr4 {L : List Int} {k : Nat} (h : k = 4) : ynatr k L = L := by unfold ynatr; rw [if_pos h]
theorem ynatr5 {L : List Int} {k : Nat} (h : k = 5) (ho : ylenOk L) : ynatr k L = be (ylenV L 2) (ynpow L) := by unfold ynatr; rw [if_neg (by omega), if_pos ⟨h, ho⟩]
theorem ynatr0 {L : List Int} {k : Nat} (h : k = 5) (ho : ¬ ylenOk L) : ynatr k L = [] := by unfold ynatr; rw [if_neg (by omega), if_neg (fun h => ho h.2)]

set_option maxRecDepth 10000 in
set_option maxHeartbeats 4000000 in
theorem part_ex (bd dl : Nat) (T : TypeId) (s : SV) (L : List Int) (off n : Nat) (w : World) (hD : Hb w bd (.cells (ic .u8 (List.replicate dl 0)) T (0, 0))) (hd1 : dl ≤ 1000) (hs : SC w .u8 1 s L) (hL : By8 L) (hc : s.2.1 ≤ s.2.2) (hl : s.2.1 ≤ 1000000) (hoff : off ≤ 1000) (hn : n ≤ dl) : Ret Hvac.prog 227 #[.slice (some ⟨bd, 0, none⟩) dl dl, .slice s.1 s.2.1 s.2.2, .int .i64 off, .int .i64 n] w fun u w' => BufT bd T (List.replicate dl 0) w w' (List.replicate (dl - n) 0 ++ ycut L off n) := by
  obtain ⟨o, hop, hon, hoE⟩ := tail_ptrX (bd := bd) hn
  have hdl : (List.replicate dl (0 : Int)).length = dl := List.length_replicate
  have hsl1 := hs.1
  simp only [Nat.mul_one] at hsl1
  have hsl : L.length = s.2.1 := by omega
  refine Ret_of_W Hvac.func227 rfl rfl ?_
  refine W_seq ?_
  refine W_region rfl ?_
  refine WO_p (PS_move_int rfl) ?_
  refine WO_p (PS_move_slice rfl) ?_
  refine WO_p (PS_lenS Hvac.runUnderlying32 rfl) ?_
  refine WO_p (PS_lss rfl rfl) ?_
  refine WO_p (PS_move_bool rfl) ?_
  refine WO_if (t := 13) rfl (fun hb2 => ?_) (fun hb2 => ?_)
  · have hb2p := hb2.h; try simp only [al_ete, al_dfn, Bool.not_eq_true', Bool.not_eq_false', al_ne, Bool.not_not, al_nn] at hb2p
    refine WO_guardT rfl rfl hb2.h ?_
    refine WO_p (PS_move_int rfl) ?_
    refine WO_guardT rfl rfl hb2.h ?_
    refine WO_p (PS_move_slice rfl) ?_
    refine WO_guardT rfl rfl hb2.h ?_
    refine WO_p (PS_lenS Hvac.runUnderlying32 rfl) ?_
    refine WO_guardT rfl rfl hb2.h ?_
    refine WO_p (PS_leq rfl rfl) ?_
    refine WO_p (PS_pickT rfl hb2.h rfl) ?_
    refine WO_nil ?_
    refine thn_normal ?_
    refine W_if rfl (fun hb4 => ?_) (fun hb4 => ?_)
    · have hb4p := hb4.h; try simp only [al_ete, al_dfn, Bool.not_eq_true', Bool.not_eq_false', al_ne, Bool.not_not, al_nn] at hb4p
      refine W_seq ?_
      refine W_region rfl ?_
      refine WO_p (PS_move_slice rfl) ?_
      refine WO_p (PS_lenS Hvac.runUnderlying32 rfl) ?_
      refine WO_p (PS_assign_int rfl) ?_
      refine WO_nil ?_
      refine thn_normal ?_
      refine W_seqJ (fun ρ w' => ∃ en : Nat, Fr [(0, .slice (some ⟨bd, 0, none⟩) dl dl), (1, .slice s.1 s.2.1 s.2.2), (2, .int .i64 off), (3, .int .i64 n), (8, .int .i64 en)] ρ ∧ w' = w ∧ off ≤ en ∧ en ≤ s.2.1 ∧ off < s.2.1 ∧ ((en = off + n ∧ off + n ≤ s.2.1) ∨ (en = s.2.1 ∧ s.2.1 ≤ off + n))) ?_ ?_
      · skip
        refine W_seq ?_
        refine W_region rfl ?_
        refine WO_p (PS_move_int rfl) ?_
        refine WO_p (PS_move_int rfl) ?_
        refine WO_p (PS_move_int rfl) ?_
        refine WO_p (PS_sub_i64n rfl rfl (by omega) (by omega)) ?_
        refine WO_p (PS_lss rfl rfl) ?_
        refine WO_nil ?_
        refine thn_normal ?_
        refine W_if rfl (fun hb6 => ?_) (fun hb6 => ?_)
        · have hb6p := hb6.h; try simp only [al_ete, al_dfn, Bool.not_eq_true', Bool.not_eq_false', al_ne, Bool.not_not, al_nn] at hb6p
          refine W_region rfl ?_
          refine WO_p (PS_move_int rfl) ?_
          refine WO_p (PS_move_int rfl) ?_
          refine WO_p (PS_add_i64n rfl rfl (by omega) (by omega)) ?_
          refine WO_p (PS_assign_int rfl) ?_
          refine WO_nil ?_
          refine thn_normal ?_
          exact ⟨off + n, ⟨rfl, rfl, rfl, rfl, congrArg (Value.int .i64) (by omega), trivial⟩, rfl, by omega, by omega, by omega, by omega⟩
        · have hb6p := hb6.h; try simp only [al_ete, al_dfn, Bool.not_eq_true', Bool.not_eq_false', al_ne, Bool.not_not, al_nn] at hb6p
          refine W_skip ?_
          refine thn_normal ?_
          exact ⟨s.2.1, ⟨rfl, rfl, rfl, rfl, rfl, trivial⟩, rfl, by omega, Nat.le_refl _, by omega, by omega⟩
      · rintro ρ w4 ⟨en, hFr, rfl, hoe, hes, hos, hen⟩
        refine W_env _ hFr ?_
        refine W_drawE [false, false, false, false, false, false, false, false, false, false, false] hmix (by kernel_rfl) rfl ?_
        refine WH_p (PS_move_slice rfl) rfl ?_
        refine WH_p (PS_move_slice rfl) rfl ?_
        refine WH_p (PS_lenS Hvac.runUnderlying32 rfl) rfl ?_
        refine WH_p (PS_move_int rfl) rfl ?_
        refine WH_p (PS_sub_i64n rfl rfl (by omega) (by omega)) rfl ?_
        refine WH_p (PS_slG_l Hvac.runUnderlying32 Hvac.sizeOf5 rfl rfl (by omega) (by omega)) rfl ?_
        rw [show ((dl : Int) - n).toNat = dl - n by omega, hop, show dl - (dl - n) = n by omega]
        refine WH_p (PS_move_slice rfl) rfl ?_
        refine WH_p (PS_move_int rfl) rfl ?_
        refine WH_p (PS_move_int rfl) rfl ?_
        refine WH_p (PS_slG_lh Hvac.runUnderlying32 Hvac.sizeOf5 rfl rfl rfl (by omega) (by omega) (by omega) (by omega)) rfl ?_
        rw [show (en : Int).toNat = en by omega, show (off : Int).toNat = off by omega]
        refine WH_copyVX (b := bd) (o := o) (T := T) (L := List.replicate dl 0) Hvac.runUnderlying32 Hvac.sizeOf5 rfl rfl (Hb.drew hD) (by omega) (SC.ext (SC.part hs off (en - off) hos hc (by omega)) (Ext.drew (Ext.refl _))) (fun z hz => hL z (List.mem_of_mem_drop (List.mem_of_mem_take hz))) ?_
        intro w5 D5 hT5 hX5
        have hD5 := part_yes (L := L) hn hoE (by omega) (by omega) hX5
        subst hD5
        refine ⟨(fun h => by cases h), ?_⟩
        refine WH_nil ?_
        first | refine bodyQ_ret0 Hvac.results227 ?_ | refine bodyQ_end0 Hvac.results227 ?_
        exact ⟨hT5.len, hT5.ty, hT5.hb, ((Ext.drew (Ext.refl _)).keepO _).trans hT5.keep fun _ _ e => e⟩
    · have hb4p := hb4.h; try simp only [al_ete, al_dfn, Bool.not_eq_true', Bool.not_eq_false', al_ne, Bool.not_not, al_nn] at hb4p
      (exfalso; omega) --END
  · have hb2p := hb2.h; try simp only [al_ete, al_dfn, Bool.not_eq_true', Bool.not_eq_false', al_ne, Bool.not_not, al_nn] at hb2p
    have hnp : L.length ≤ off := by omega
    refine WO_guardF rfl rfl hb2.h ?_
    refine WO_guardF rfl rfl hb2.h ?_
    refine WO_guardF rfl rfl hb2.h ?_
    refine WO_guardF rfl rfl hb2.h ?_
    refine WO_p (PS_pickF rfl hb2.h rfl) ?_
    refine WO_nil ?_
    refine thn_normal ?_
    refine W_condF rfl rfl ?_
    refine W_skip ?_
    first | refine bodyQ_ret0 Hvac.results227 ?_ | refine bodyQ_end0 Hvac.results227 ?_
    rw [← part_no hn hnp]; exact BufT.refl hD

set_option maxRecDepth 10000 in
set_option maxHeartbeats 4000000 in
theorem lengths_ex (s : SV) (L : List Int) (w : World) (hs : SC w .u8 1 s L) (hL : By8 L) (hc : s.2.1 ≤ s.2.2) (hl : s.2.1 ≤ 1000000) : Ret Hvac.prog 226 #[.slice s.1 s.2.1 s.2.2] w fun u w' => Ext w w' ∧ ∃ (nb ne nm : Nat) (ok : Bool), u = .tuple #[.int .i64 nb, .int .i64 ne, .int .i64 nm, .bool ok] ∧ nb ≤ 64 ∧ ne ≤ 64 ∧ nm ≤ 64 ∧ nb = ylenV L 0 ∧ ne = ylenV L 1 ∧ nm = ylenV L 2 ∧ (ok = true ↔ ylenOk L) := by
  refine Ret_of_W Hvac.func226 rfl rfl ?_
  refine W_seq ?_
  refine W_region rfl ?_
  refine WO_p (PS_assign_int rfl) ?_
  refine WO_p (PS_assign_int rfl) ?_
  refine WO_p (PS_assign_int rfl) ?_
  refine WO_p (PS_assign_bool rfl) ?_
  refine WO_nil ?_
  refine thn_normal ?_
  refine W_seq ?_
  refine W_region rfl ?_
  refine WO_allocG Hvac.zeroValue366 ?_
  intro b6 v6 hg6 hE6 hH6 hl6
  try simp only [size_alloc, size_setB, size_drew] at hg6
  have hzz6 := hE6.1
  try simp only [size_alloc, size_setB, size_drew] at hzz6
  replace hH6 : Hb v6 b6 (.cells (ic .i64 [0, 0, 0]) 366 (0, 0)) := hH6
  refine WO_nil ?_
  refine thn_normal ?_
  refine W_seq ?_
  refine W_seq ?_
  refine W_region rfl ?_
  refine WO_p (PS_move_int rfl) ?_
  refine WO_nil ?_
  refine thn_normal ?_
  refine W_block ?_
  refine W_loopN (fun m ρ w' => ∃ (i : Nat) (N6 : List Int), i + m = 3 ∧ N6.length = 3 ∧ (∀ x ∈ N6, 0 ≤ x ∧ x ≤ 64) ∧ (∀ j, j < i → N6.getD j 0 = (ylen1 L j : Int) ∧ ylen1 L j ≤ 64) ∧ Fr [(0, .slice s.1 s.2.1 s.2.2), (6, .pointer (some ⟨b6, 0, none⟩)), (11, .int .i64 i)] ρ ∧ Ext w w' ∧ v6.heap.size ≤ w'.heap.size ∧ Hb w' b6 (.cells (ic .i64 N6) 366 (0, 0))) 3 ?_ ?_
  · exact ⟨0, [0, 0, 0], rfl, rfl, by decide, (fun j hj => absurd hj (Nat.not_lt_zero _)), ⟨rfl, rfl, rfl, trivial⟩, (by repeat (first | assumption | exact Ext.refl _ | refine Ext.alloc ?_ _ | refine Ext.drew ?_ | refine Ext.setB ?_ (by first | omega | (simp only [size_alloc, size_setB, size_drew]; omega)) _ | refine Ext.trans ?_ (by assumption))), Nat.le_refl _, hH6⟩
  intro m ρ w3 hI
  obtain ⟨i, N6, him, hn6, hN6, hNv, hF3, hE3, hz3v, hb63⟩ := hI
  refine W_env _ hF3 ?_
  have hz3 := hE3.1
  refine W_seq ?_
  refine W_region rfl ?_
  refine WO_p (PS_lss rfl rfl) ?_
  refine WO_nil ?_
  refine thn_normal ?_
  refine W_seq ?_
  refine W_if rfl (fun hb2 => ?_) (fun hb2 => ?_)
  · have hb2p := hb2.h; try simp only [al_ete, al_dfn, Bool.not_eq_true', Bool.not_eq_false', al_ne, Bool.not_not, al_nn] at hb2p
    refine W_skip ?_
    refine thn_normal ?_
    refine W_seq ?_
    refine W_block ?_
    refine W_seq ?_
    refine W_region rfl ?_
    refine WO_p (PS_move_int rfl) ?_
    refine WO_p (PS_assign_int rfl) ?_
    refine WO_nil ?_
    refine thn_normal ?_
    refine W_seq ?_
    refine W_region rfl ?_
    refine WO_allocG Hvac.zeroValue27 ?_
    intro b8 v8 hg8 hE8 hH8 hl8
    try simp only [size_alloc, size_setB, size_drew] at hg8
    have hzz8 := hE8.1
    try simp only [size_alloc, size_setB, size_drew] at hzz8
    replace hH8 : Hb v8 b8 (.cells (ic .u8 (List.replicate 32 0)) 27 (0, 0)) := hH8
    refine WO_nil ?_
    refine thn_normal ?_
    refine W_seq ?_
    refine W_region rfl ?_
    refine WO_p (PS_slA Hvac.runUnderlying27 Hvac.sizeOf5 rfl (by omega)) ?_
    refine WO_p (PS_move_slice rfl) ?_
    refine WO_p (PS_move_int rfl) ?_
    refine WO_p (PS_mul_i64n rfl rfl (by omega) (by omega)) ?_
    rw [show (32 : Int) * i = ((32 * i : Nat) : Int) by omega]
    refine WO_call Hvac.call227 (by rfl) (Ret.mono (part_ex b8 32 27 s L (32 * i) 32 _ (Hb.mk (Hb.h (by repeat (first | assumption | exact Hb.newY _ _ | refine Hb.alloc ?_ | refine Hb.drew ?_ | refine Hb.ext (by assumption) ?_ | exact Hb.setSameL (by first | omega | (simp only [size_alloc, size_setB, size_drew]; omega)) | exact Hb.setSame (by assumption) | refine Hb.set (by first | omega | (simp only [size_alloc, size_setB, size_drew]; omega)) ?_ )))) (by omega) (SC.ext hs (by repeat (first | assumption | exact Ext.refl _ | refine Ext.alloc ?_ _ | refine Ext.drew ?_ | refine Ext.setB ?_ (by first | omega | (simp only [size_alloc, size_setB, size_drew]; omega)) _ | exact Ext.trans (by assumption) (by assumption) | refine Ext.trans ?_ (by assumption)))) hL hc hl (by omega) (Nat.le_refl _)) ?_)
    rintro _ w6 hT6
    rw [show 32 - 32 = 0 from rfl, List.replicate_zero, List.nil_append] at hT6
    obtain ⟨D6, hD6e⟩ : ∃ D6, ycut L (32 * i) 32 = D6 := ⟨_, rfl⟩
    rw [hD6e] at hT6
    have hz6 := hT6.keep.sz
    have hE6' : Ext w w6 := hT6.ext (by repeat (first | assumption | exact Ext.refl _ | refine Ext.alloc ?_ _ | refine Ext.drew ?_ | refine Ext.setB ?_ (by first | omega | (simp only [size_alloc, size_setB, size_drew]; omega)) _ | exact Ext.trans (by assumption) (by assumption) | refine Ext.trans ?_ (by assumption))) (by omega)
    have hD6 : By D6 32 := ⟨by rw [hT6.len]; simp, hT6.ty (by_zero 32)⟩
    have hD6l := hD6.1
    have hb66 := hT6.other (Hb.mk (Hb.h (by repeat (first | assumption | exact Hb.newY _ _ | refine Hb.alloc ?_ | refine Hb.drew ?_ | refine Hb.ext (by assumption) ?_ | exact Hb.setSameL (by first | omega | (simp only [size_alloc, size_setB, size_drew]; omega)) | exact Hb.setSame (by assumption) | refine Hb.set (by first | omega | (simp only [size_alloc, size_setB, size_drew]; omega)) ?_ ))) : Hb _ b6 (.cells (ic .i64 N6) 366 (0, 0))) (by omega)
    have hb86 := hT6.hb
    have hfw := fromB_wd hD6.2
    have hxw : Xt (ic .u8 D6) 0 (0 + 32) (ic .u8 D6) := Xt.whole rfl (by rw [size_ic]; omega)
    have hwvY : wv (fromB D6) = (ylen1 L i : Int) := by rw [← wn_int hfw, wn_fromB hD6, ← hD6e]; rfl
    generalize hyl : ylen1 L i = yl at *
    refine WO_nil ?_
    refine thn_normal ?_
    refine W_seq ?_
    refine W_region rfl ?_
    refine WO_loadA _ Hvac.isAgg27 Hvac.sizeOf27 rfl (Hb.h (by repeat (first | assumption | exact Hb.newY _ _ | refine Hb.alloc ?_ | refine Hb.drew ?_ | refine Hb.ext (by assumption) ?_ | exact Hb.setSameL (by first | omega | (simp only [size_alloc, size_setB, size_drew]; omega)) | exact Hb.setSame (by assumption) | refine Hb.set (by first | omega | (simp only [size_alloc, size_setB, size_drew]; omega)) ?_ ))) (by first | omega | assumption | rfl | decide | exact Nat.le_refl _ | (simp only [size_ic, Value.cells]; omega) | (simp; omega) | simp) (Xt.h (by first | assumption | exact Xt.whole rfl rfl | exact Xt.whole rfl (by assumption) | exact Xt.whole rfl (by simp only [size_ic, Value.cells]; omega) | exact ⟨rfl⟩)) ?_
    refine WO_call Hvac.call69 (by rfl) (Ret.mono (fromBytes_spec _ _ hD6) ?_)
    rintro _ w69_3 ⟨rfl, hE69_3⟩
    have hz69_3 := hE69_3.1
    try simp only [size_alloc, size_setB, size_drew] at hz69_3
    refine WO_call Hvac.call274 (by rfl) (Ret.mono (u64x_spec _ _ hfw) ?_)
    rintro _ w274_4 ⟨hE274_4, x9, rfl, hx9, hx9b⟩
    have hz274_4 := hE274_4.1
    try simp only [size_alloc, size_setB, size_drew] at hz274_4
    refine WO_p (PS_move_tuple rfl) ?_
    refine WO_p (PS_extract_int rfl rfl) ?_
    refine WO_p (PS_extract_bool rfl rfl) ?_
    refine WO_p (PS_assign_int rfl) ?_
    refine WO_p (PS_assign_bool rfl) ?_
    refine WO_nil ?_
    refine thn_normal ?_
    refine W_seq ?_
    refine W_seq ?_
    refine W_region rfl ?_
    refine WO_p (PS_move_bool rfl) ?_
    refine WO_p (PS_not rfl) ?_
    refine WO_p (PS_move_bool rfl) ?_
    refine WO_if (t := 27) rfl (fun hb8 => ?_) (fun hb8 => ?_)
    · have hb8p := hb8.h; try simp only [al_ete, al_dfn, Bool.not_eq_true', Bool.not_eq_false', al_ne, Bool.not_not, al_nn] at hb8p
      refine WO_guardF rfl rfl hb8.h ?_
      refine WO_guardF rfl rfl hb8.h ?_
      refine WO_p (PS_pickT rfl hb8.h rfl) ?_
      refine WO_nil ?_
      refine thn_normal ?_
      refine W_condT rfl rfl ?_
      refine W_seq ?_
      have hnok : ¬ ylenOk L := ylen_no (i := i) (by omega) (by rw [hyl]; omega)
      refine W_region rfl ?_
      refine WO_p (PS_assign_int rfl) ?_
      refine WO_p (PS_assign_int rfl) ?_
      refine WO_p (PS_assign_int rfl) ?_
      refine WO_p (PS_assign_bool rfl) ?_
      refine WO_nil ?_
      refine thn_normal ?_
      refine W_ret ?_
      refine thn_ret ?_
      refine inBlk_ret ?_
      refine thn_ret ?_
      refine thn_ret ?_
      refine inBlk_ret ?_
      refine thn_ret ?_
      refine bodyQ_ret4 Hvac.results226 rfl rfl rfl rfl (.int _ _) (.int _ _) (.int _ _) (.bool _) rfl rfl rfl rfl ?_
      exact ⟨(by repeat (first | assumption | exact Ext.refl _ | refine Ext.alloc ?_ _ | refine Ext.drew ?_ | refine Ext.setB ?_ (by first | omega | (simp only [size_alloc, size_setB, size_drew]; omega)) _ | exact Ext.trans (by assumption) (by assumption) | refine Ext.trans ?_ (by assumption))), 0, 0, 0, false, rfl, by omega, by omega, by omega, (ylenV_no hnok 0).symm, (ylenV_no hnok 1).symm, (ylenV_no hnok 2).symm, ⟨(fun h => by cases h), fun h => absurd h hnok⟩⟩
    · have hb8p := hb8.h; try simp only [al_ete, al_dfn, Bool.not_eq_true', Bool.not_eq_false', al_ne, Bool.not_not, al_nn] at hb8p
      refine WO_guardT rfl rfl hb8.h ?_
      refine WO_p (PS_move_int rfl) ?_
      refine WO_guardT rfl rfl hb8.h ?_
      refine WO_p (PS_gtr rfl rfl) ?_
      refine WO_p (PS_pickF rfl hb8.h rfl) ?_
      refine WO_nil ?_
      refine thn_normal ?_
      refine W_if rfl (fun hb10 => ?_) (fun hb10 => ?_)
      · have hb10p := hb10.h; try simp only [al_ete, al_dfn, Bool.not_eq_true', Bool.not_eq_false', al_ne, Bool.not_not, al_nn] at hb10p
        refine W_seq ?_
        have hnok : ¬ ylenOk L := ylen_no (i := i) (by omega) (by rw [hyl]; omega)
        refine W_region rfl ?_
        refine WO_p (PS_assign_int rfl) ?_
        refine WO_p (PS_assign_int rfl) ?_
        refine WO_p (PS_assign_int rfl) ?_
        refine WO_p (PS_assign_bool rfl) ?_
        refine WO_nil ?_
        refine thn_normal ?_
        refine W_ret ?_
        refine thn_ret ?_
        refine inBlk_ret ?_
        refine thn_ret ?_
        refine thn_ret ?_
        refine inBlk_ret ?_
        refine thn_ret ?_
        refine bodyQ_ret4 Hvac.results226 rfl rfl rfl rfl (.int _ _) (.int _ _) (.int _ _) (.bool _) rfl rfl rfl rfl ?_
        exact ⟨(by repeat (first | assumption | exact Ext.refl _ | refine Ext.alloc ?_ _ | refine Ext.drew ?_ | refine Ext.setB ?_ (by first | omega | (simp only [size_alloc, size_setB, size_drew]; omega)) _ | exact Ext.trans (by assumption) (by assumption) | refine Ext.trans ?_ (by assumption))), 0, 0, 0, false, rfl, by omega, by omega, by omega, (ylenV_no hnok 0).symm, (ylenV_no hnok 1).symm, (ylenV_no hnok 2).symm, ⟨(fun h => by cases h), fun h => absurd h hnok⟩⟩
      · have hb10p := hb10.h; try simp only [al_ete, al_dfn, Bool.not_eq_true', Bool.not_eq_false', al_ne, Bool.not_not, al_nn] at hb10p
        refine W_skip ?_
        refine thn_normal ?_
        refine W_region rfl ?_
        refine WO_p (PS_move_int rfl) ?_
        refine WO_p (PS_move_int rfl) ?_
        refine WO_p (PS_conv_i64n Hvac.runUnderlying26 Hvac.runUnderlying3 rfl (by omega) (by omega)) ?_
        refine WO_p (PS_indexA Hvac.runUnderlying366 Hvac.sizeOf3 rfl rfl (by omega) (by omega)) ?_
        refine WO_store1 Hvac.sizeOf3 rfl (v := .int _ _) rfl (Hb.h (by repeat (first | assumption | exact Hb.newY _ _ | refine Hb.alloc ?_ | refine Hb.drew ?_ | refine Hb.ext (by assumption) ?_ | exact Hb.setSameL (by first | omega | (simp only [size_alloc, size_setB, size_drew]; omega)) | exact Hb.setSame (by assumption) | refine Hb.set (by first | omega | (simp only [size_alloc, size_setB, size_drew]; omega)) ?_ ))) rfl (by rw [size_ic]; omega) rfl ?_
        rw [show (i : Int).toNat = i by omega, ic_set]
        refine WO_nil ?_
        refine inBlk_normal ?_
        refine thn_normal ?_
        refine W_region rfl ?_
        refine WO_p (PS_add_i64n rfl rfl (by omega) (by omega)) ?_
        refine WO_p (PS_move_int rfl) ?_
        refine WO_nil ?_
        refine thn_normal ?_
        exact ⟨m - 1, by omega, i + 1, N6.set i x9, by omega, by simp [hn6], mem_set hN6 (by omega), (fun j hj => by rw [getD_setI]; by_cases hji : i = j; (subst hji; rw [if_pos ⟨rfl, by omega⟩]; exact ⟨by omega, by omega⟩); (rw [if_neg (fun h => hji h.1)]; exact hNv j (by omega))), ⟨rfl, rfl, congrArg (Value.int .i64) (by omega), trivial⟩, (by repeat (first | assumption | exact Ext.refl _ | refine Ext.alloc ?_ _ | refine Ext.drew ?_ | refine Ext.setB ?_ (by first | omega | (simp only [size_alloc, size_setB, size_drew]; omega)) _ | exact Ext.trans (by assumption) (by assumption) | refine Ext.trans ?_ (by assumption))), by first | omega | (simp only [size_setB]; omega), Hb.mk (Hb.h (by repeat (first | assumption | exact Hb.newY _ _ | refine Hb.alloc ?_ | refine Hb.drew ?_ | refine Hb.ext (by assumption) ?_ | exact Hb.setSameL (by first | omega | (simp only [size_alloc, size_setB, size_drew]; omega)) | exact Hb.setSame (by assumption) | refine Hb.set (by first | omega | (simp only [size_alloc, size_setB, size_drew]; omega)) ?_ )))⟩
  · have hb2p := hb2.h; try simp only [al_ete, al_dfn, Bool.not_eq_true', Bool.not_eq_false', al_ne, Bool.not_not, al_nn] at hb2p
    refine W_exit ?_
    refine thn_exit ?_
    refine thn_exit ?_
    refine inBlk_exit ?_
    refine thn_normal ?_
    refine W_seq ?_
    have hi3 : i = 3 := by omega
    subst hi3
    have hok3 := ylenOk_3 hNv
    have e0 := (hNv 0 (by decide)).1
    have e1 := (hNv 1 (by decide)).1
    have e2 := (hNv 2 (by decide)).1
    rw [← ylenV_ok hok3] at e0 e1 e2
    have m0 := mem3 hn6 hN6 0 (by decide)
    have m1 := mem3 hn6 hN6 1 (by decide)
    have m2 := mem3 hn6 hN6 2 (by decide)
    have c0 : Ce (ic .i64 N6) (0 + (0 : Int).toNat * 1) (.int .i64 (N6.getD 0 0)) := ce_ic (by omega)
    have c1 : Ce (ic .i64 N6) (0 + (1 : Int).toNat * 1) (.int .i64 (N6.getD 1 0)) := ce_ic (by omega)
    have c2 : Ce (ic .i64 N6) (0 + (2 : Int).toNat * 1) (.int .i64 (N6.getD 2 0)) := ce_ic (by omega)
    generalize N6.getD 0 0 = x0 at *
    generalize N6.getD 1 0 = x1 at *
    generalize N6.getD 2 0 = x2 at *
    obtain ⟨n0, rfl⟩ := nat_of m0.1
    obtain ⟨n1, rfl⟩ := nat_of m1.1
    obtain ⟨n2, rfl⟩ := nat_of m2.1
    refine W_drawE [false, false, false, false, false, false, false, false, false, false] hmix (by kernel_rfl) rfl ?_
    refine WH_p (PS_indexA Hvac.runUnderlying366 Hvac.sizeOf3 rfl rfl (by omega) (by omega)) rfl ?_
    refine WH_load (.int _ _) Hvac.isAgg3 rfl (Hb.h (by repeat (first | assumption | exact Hb.newY _ _ | refine Hb.alloc ?_ | refine Hb.drew ?_ | refine Hb.ext (by assumption) ?_ | exact Hb.setSameL (by first | omega | (simp only [size_alloc, size_setB, size_drew]; omega)) | exact Hb.setSame (by assumption) | refine Hb.set (by first | omega | (simp only [size_alloc, size_setB, size_drew]; omega)) ?_ ))) (Ce.h (by first | assumption | exact ⟨rfl⟩)) ?_
    refine WH_p (PS_indexA Hvac.runUnderlying366 Hvac.sizeOf3 rfl rfl (by omega) (by omega)) rfl ?_
    refine WH_load (.int _ _) Hvac.isAgg3 rfl (Hb.h (by repeat (first | assumption | exact Hb.newY _ _ | refine Hb.alloc ?_ | refine Hb.drew ?_ | refine Hb.ext (by assumption) ?_ | exact Hb.setSameL (by first | omega | (simp only [size_alloc, size_setB, size_drew]; omega)) | exact Hb.setSame (by assumption) | refine Hb.set (by first | omega | (simp only [size_alloc, size_setB, size_drew]; omega)) ?_ ))) (Ce.h (by first | assumption | exact ⟨rfl⟩)) ?_
    refine WH_p (PS_indexA Hvac.runUnderlying366 Hvac.sizeOf3 rfl rfl (by omega) (by omega)) rfl ?_
    refine WH_load (.int _ _) Hvac.isAgg3 rfl (Hb.h (by repeat (first | assumption | exact Hb.newY _ _ | refine Hb.alloc ?_ | refine Hb.drew ?_ | refine Hb.ext (by assumption) ?_ | exact Hb.setSameL (by first | omega | (simp only [size_alloc, size_setB, size_drew]; omega)) | exact Hb.setSame (by assumption) | refine Hb.set (by first | omega | (simp only [size_alloc, size_setB, size_drew]; omega)) ?_ ))) (Ce.h (by first | assumption | exact ⟨rfl⟩)) ?_
    refine WH_p (PS_assign_int rfl) rfl ?_
    refine WH_p (PS_assign_int rfl) rfl ?_
    refine WH_p (PS_assign_int rfl) rfl ?_
    refine WH_p (PS_assign_bool rfl) rfl ?_
    refine WH_nil ?_
    refine thn_normal ?_
    refine W_ret ?_
    refine bodyQ_ret4 Hvac.results226 rfl rfl rfl rfl (.int _ _) (.int _ _) (.int _ _) (.bool _) rfl rfl rfl rfl ?_
    exact ⟨(by repeat (first | assumption | exact Ext.refl _ | refine Ext.alloc ?_ _ | refine Ext.drew ?_ | refine Ext.setB ?_ (by first | omega | (simp only [size_alloc, size_setB, size_drew]; omega)) _ | exact Ext.trans (by assumption) (by assumption) | refine Ext.trans ?_ (by assumption))), n0, n1, n2, true, rfl, by omega, by omega, by omega, by omega, by omega, by omega, ⟨fun _ => hok3, fun _ => rfl⟩⟩

set_option maxRecDepth 10000 in
set_option maxHeartbeats 4000000 in
theorem operand_ex (s : SV) (L : List Int) (off n : Nat) (w : World) (hs : SC w .u8 1 s L) (hL : By8 L) (hc : s.2.1 ≤ s.2.2) (hl : s.2.1 ≤ 1000000) (hoff : off ≤ 1000) (hn : n ≤ 64) : Ret Hvac.prog 236 #[.slice s.1 s.2.1 s.2.2, .int .i64 off, .int .i64 n] w fun u w' => Ext w w' ∧ ∃ R, u = .agg (ic .u64 R) ∧ R.length = 8 ∧ UL R ∧ nw R = bvY (ycut L off n) := by
  refine Ret_of_W Hvac.func236 rfl rfl ?_
  refine W_seq ?_
  refine W_region rfl ?_
  refine WO_allocG Hvac.zeroValue308 ?_
  intro b6 v6 hg6 hE6 hH6 hl6
  try simp only [size_alloc, size_setB, size_drew] at hg6
  have hzz6 := hE6.1
  try simp only [size_alloc, size_setB, size_drew] at hzz6
  replace hH6 : Hb v6 b6 (.cells (ic .u64 (List.replicate 8 0)) 308 (0, 0)) := hH6
  refine WO_nil ?_
  refine thn_normal ?_
  refine W_seq ?_
  refine W_region rfl ?_
  refine WO_allocG Hvac.zeroValue312 ?_
  intro b7 v7 hg7 hE7 hH7 hl7
  try simp only [size_alloc, size_setB, size_drew] at hg7
  have hzz7 := hE7.1
  try simp only [size_alloc, size_setB, size_drew] at hzz7
  replace hH7 : Hb v7 b7 (.cells (ic .u8 (List.replicate 64 0)) 312 (0, 0)) := hH7
  refine WO_nil ?_
  refine thn_normal ?_
  refine W_seq ?_
  refine W_region rfl ?_
  refine WO_p (PS_slA Hvac.runUnderlying312 Hvac.sizeOf5 rfl (by omega)) ?_
  refine WO_p (PS_move_slice rfl) ?_
  refine WO_p (PS_move_int rfl) ?_
  refine WO_p (PS_move_int rfl) ?_
  refine WO_call Hvac.call227 (by rfl) (Ret.mono (part_ex b7 64 312 s L off n _ (Hb.mk (Hb.h (by repeat (first | assumption | exact Hb.newY _ _ | refine Hb.alloc ?_ | refine Hb.drew ?_ | refine Hb.ext (by assumption) ?_ | exact Hb.setSameL (by first | omega | (simp only [size_alloc, size_setB, size_drew]; omega)) | exact Hb.setSame (by assumption) | refine Hb.set (by first | omega | (simp only [size_alloc, size_setB, size_drew]; omega)) ?_ )))) (by omega) (SC.ext hs (by repeat (first | assumption | exact Ext.refl _ | refine Ext.alloc ?_ _ | refine Ext.drew ?_ | refine Ext.setB ?_ (by first | omega | (simp only [size_alloc, size_setB, size_drew]; omega)) _ | exact Ext.trans (by assumption) (by assumption) | refine Ext.trans ?_ (by assumption)))) hL hc hl hoff hn) ?_)
  rintro _ w2 hT2
  obtain ⟨D2, hD2e⟩ : ∃ D2, List.replicate (64 - n) 0 ++ ycut L off n = D2 := ⟨_, rfl⟩
  rw [hD2e] at hT2
  have hz2 := hT2.keep.sz
  have hE2' : Ext w w2 := hT2.ext (by repeat (first | assumption | exact Ext.refl _ | refine Ext.alloc ?_ _ | refine Ext.drew ?_ | refine Ext.setB ?_ (by first | omega | (simp only [size_alloc, size_setB, size_drew]; omega)) _ | exact Ext.trans (by assumption) (by assumption) | refine Ext.trans ?_ (by assumption))) (by omega)
  have hD2 : By8 D2 := hT2.ty (by_zero 64)
  have hD2l : D2.length = 64 := by rw [hT2.len]; simp
  have hb62 := hT2.other (Hb.mk (Hb.h (by repeat (first | assumption | exact Hb.newY _ _ | refine Hb.alloc ?_ | refine Hb.drew ?_ | refine Hb.ext (by assumption) ?_ | exact Hb.setSameL (by first | omega | (simp only [size_alloc, size_setB, size_drew]; omega)) | exact Hb.setSame (by assumption) | refine Hb.set (by first | omega | (simp only [size_alloc, size_setB, size_drew]; omega)) ?_ ))) : Hb _ b6 (.cells (ic .u64 (List.replicate 8 0)) 308 (0, 0))) (by omega)
  have hb72 := hT2.hb
  refine WO_nil ?_
  refine thn_normal ?_
  refine W_seq ?_
  refine W_region rfl ?_
  refine WO_allocG Hvac.zeroValue308 ?_
  intro b8 v8 hg8 hE8 hH8 hl8
  try simp only [size_alloc, size_setB, size_drew] at hg8
  have hzz8 := hE8.1
  try simp only [size_alloc, size_setB, size_drew] at hzz8
  replace hH8 : Hb v8 b8 (.cells (ic .u64 (List.replicate 8 0)) 308 (0, 0)) := hH8
  refine WO_nil ?_
  refine thn_normal ?_
  refine W_seq ?_
  refine W_seq ?_
  refine W_region rfl ?_
  refine WO_p (PS_move_int rfl) ?_
  refine WO_nil ?_
  refine thn_normal ?_
  refine W_block ?_
  refine W_loopN (fun m ρ w' => ∃ (i : Nat) (R8 : List Int), i + m = 8 ∧ R8.length = 8 ∧ UL R8 ∧ lvr R8 0 i = ((bvY (D2.drop (64 - 8 * i)) : Nat) : Int) ∧ Fr [(6, .pointer (some ⟨b6, 0, none⟩)), (7, .pointer (some ⟨b7, 0, none⟩)), (8, .pointer (some ⟨b8, 0, none⟩)), (17, .int .i64 i)] ρ ∧ Ext w w' ∧ v8.heap.size ≤ w'.heap.size ∧ Hb w' b6 (.cells (ic .u64 (List.replicate 8 0)) 308 (0, 0)) ∧ Hb w' b7 (.cells (ic .u8 D2) 312 (0, 0)) ∧ Hb w' b8 (.cells (ic .u64 R8) 308 (0, 0))) 8 ?_ ?_
  · exact ⟨0, List.replicate 8 0, rfl, by simp, ULr 8, (by rw [List.drop_eq_nil_of_le (by omega)]; rfl), ⟨rfl, rfl, rfl, rfl, trivial⟩, (by repeat (first | assumption | exact Ext.refl _ | refine Ext.alloc ?_ _ | refine Ext.drew ?_ | refine Ext.setB ?_ (by first | omega | (simp only [size_alloc, size_setB, size_drew]; omega)) _ | refine Ext.trans ?_ (by assumption))), Nat.le_refl _, Hb.mk (Hb.h (by repeat (first | assumption | exact Hb.newY _ _ | refine Hb.alloc ?_ | refine Hb.drew ?_ | refine Hb.ext (by assumption) ?_ | exact Hb.setSameL (by first | omega | (simp only [size_alloc, size_setB, size_drew]; omega)) | exact Hb.setSame (by assumption) | refine Hb.set (by first | omega | (simp only [size_alloc, size_setB, size_drew]; omega)) ?_ ))), Hb.mk (Hb.h (by repeat (first | assumption | exact Hb.newY _ _ | refine Hb.alloc ?_ | refine Hb.drew ?_ | refine Hb.ext (by assumption) ?_ | exact Hb.setSameL (by first | omega | (simp only [size_alloc, size_setB, size_drew]; omega)) | exact Hb.setSame (by assumption) | refine Hb.set (by first | omega | (simp only [size_alloc, size_setB, size_drew]; omega)) ?_ ))), Hb.mk (Hb.h (by repeat (first | assumption | exact Hb.newY _ _ | refine Hb.alloc ?_ | refine Hb.drew ?_ | refine Hb.ext (by assumption) ?_ | exact Hb.setSameL (by first | omega | (simp only [size_alloc, size_setB, size_drew]; omega)) | exact Hb.setSame (by assumption) | refine Hb.set (by first | omega | (simp only [size_alloc, size_setB, size_drew]; omega)) ?_ )))⟩
  intro m ρ w5 hI
  obtain ⟨i, R8, him, hr8, hR8, hRv, hF5, hE5, hz5v, hb65, hb75, hb85⟩ := hI
  refine W_env _ hF5 ?_
  have hz5 := hE5.1
  refine W_seq ?_
  refine W_region rfl ?_
  refine WO_p (PS_lss rfl rfl) ?_
  refine WO_nil ?_
  refine thn_normal ?_
  refine W_seq ?_
  refine W_if rfl (fun hb3 => ?_) (fun hb3 => ?_)
  · have hb3p := hb3.h; try simp only [al_ete, al_dfn, Bool.not_eq_true', Bool.not_eq_false', al_ne, Bool.not_not, al_nn] at hb3p
    obtain ⟨p0, p1, p2, p3, p4, p5, p6, p7, e8, q0, q1, q2, q3, q4, q5, q6, q7⟩ := by8_8 (o := (56 - 8 * (i : Int)).toNat) hD2 (by omega)
    have hx7 : Xt (ic .u8 D2) (0 + (56 - 8 * (i : Int)).toNat * 1) (0 + (56 - 8 * (i : Int)).toNat * 1 + 8) (ic .u8 [p0, p1, p2, p3, p4, p5, p6, p7]) := by have h := Xt.ic .u8 D2 (56 - 8 * (i : Int)).toNat 8 (by omega); rw [e8] at h; simpa using h
    refine W_skip ?_
    refine thn_normal ?_
    refine W_seq ?_
    refine W_block ?_
    refine W_seq ?_
    refine W_region rfl ?_
    refine WO_p (PS_move_int rfl) ?_
    refine WO_p (PS_assign_int rfl) ?_
    refine WO_nil ?_
    refine thn_normal ?_
    refine W_seq ?_
    refine W_region rfl ?_
    refine WO_p (PS_slA Hvac.runUnderlying312 Hvac.sizeOf5 rfl (by omega)) ?_
    refine WO_p (PS_move_int rfl) ?_
    refine WO_p (PS_mul_i64n rfl rfl (by omega) (by omega)) ?_
    refine WO_p (PS_sub_i64n rfl rfl (by omega) (by omega)) ?_
    refine WO_call Hvac.call152 (by rfl) (Ret.mono (be64_spec b7 0 64 64 (56 - 8 * (i : Int)) p0 p1 p2 p3 p4 p5 p6 p7 (ic .u8 D2) 312 (0, 0) _ (Hb.mk (Hb.h (by repeat (first | assumption | exact Hb.newY _ _ | refine Hb.alloc ?_ | refine Hb.drew ?_ | refine Hb.ext (by assumption) ?_ | exact Hb.setSameL (by first | omega | (simp only [size_alloc, size_setB, size_drew]; omega)) | exact Hb.setSame (by assumption) | refine Hb.set (by first | omega | (simp only [size_alloc, size_setB, size_drew]; omega)) ?_ )))) hx7 (by rw [size_ic]; omega) (by omega) (by omega) (by decide) (by decide) q0 q1 q2 q3 q4 q5 q6 q7) ?_)
    rintro _ w7 ⟨rfl, hE7⟩
    have hz7 := hE7.1
    have hbe : 0 ≤ be8 p0 p1 p2 p3 p4 p5 p6 p7 ∧ be8 p0 p1 p2 p3 p4 p5 p6 p7 ≤ 18446744073709551615 := by unfold be8; omega
    refine WO_p (PS_move_tuple rfl) ?_
    refine WO_p (PS_extract_int rfl rfl) ?_
    refine WO_p (PS_extract_bool rfl rfl) ?_
    refine WO_p (PS_assign_int rfl) ?_
    refine WO_p (PS_assign_bool rfl) ?_
    refine WO_nil ?_
    refine thn_normal ?_
    refine W_region rfl ?_
    refine WO_p (PS_move_int rfl) ?_
    refine WO_p (PS_move_int rfl) ?_
    refine WO_p (PS_indexA Hvac.runUnderlying308 Hvac.sizeOf26 rfl rfl (by omega) (by omega)) ?_
    refine WO_storeX (b := b8) (T := 308) (L := R8) Hvac.sizeOf26 rfl rfl (Hb.mk (Hb.h (by repeat (first | assumption | exact Hb.newY _ _ | refine Hb.alloc ?_ | refine Hb.drew ?_ | refine Hb.ext (by assumption) ?_ | exact Hb.setSameL (by first | omega | (simp only [size_alloc, size_setB, size_drew]; omega)) | exact Hb.setSame (by assumption) | refine Hb.set (by first | omega | (simp only [size_alloc, size_setB, size_drew]; omega)) ?_ )))) (by omega) hbe ?_
    intro w9 R9 hU9 hX9
    rw [show 0 + (i : Int).toNat * 1 = i by omega] at hX9
    have hz9 := hU9.keep.sz
    refine WO_nil ?_
    refine inBlk_normal ?_
    refine thn_normal ?_
    refine W_region rfl ?_
    refine WO_p (PS_add_i64n rfl rfl (by omega) (by omega)) ?_
    refine WO_p (PS_move_int rfl) ?_
    refine WO_nil ?_
    refine thn_normal ?_
    exact ⟨m - 1, by omega, i + 1, R9, by omega, hU9.len.trans hr8, hU9.ty hR8, (by rw [hX9]; exact lvr_step hD2l (by omega) hr8 hRv (by rw [be8_bv q0 q1 q2 q3 q4 q5 q6 q7, ← e8, show (56 - 8 * (i : Int)).toNat = 56 - 8 * i by omega])), ⟨rfl, rfl, rfl, congrArg (Value.int .i64) (by omega), trivial⟩, hU9.ext1 (by repeat (first | assumption | exact Ext.refl _ | refine Ext.alloc ?_ _ | refine Ext.drew ?_ | refine Ext.setB ?_ (by first | omega | (simp only [size_alloc, size_setB, size_drew]; omega)) _ | exact Ext.trans (by assumption) (by assumption) | refine Ext.trans ?_ (by assumption))) (by omega), by omega, hU9.other (Hb.mk (Hb.h (by repeat (first | assumption | exact Hb.newY _ _ | refine Hb.alloc ?_ | refine Hb.drew ?_ | refine Hb.ext (by assumption) ?_ | exact Hb.setSameL (by first | omega | (simp only [size_alloc, size_setB, size_drew]; omega)) | exact Hb.setSame (by assumption) | refine Hb.set (by first | omega | (simp only [size_alloc, size_setB, size_drew]; omega)) ?_ )))) (by omega), hU9.other (Hb.mk (Hb.h (by repeat (first | assumption | exact Hb.newY _ _ | refine Hb.alloc ?_ | refine Hb.drew ?_ | refine Hb.ext (by assumption) ?_ | exact Hb.setSameL (by first | omega | (simp only [size_alloc, size_setB, size_drew]; omega)) | exact Hb.setSame (by assumption) | refine Hb.set (by first | omega | (simp only [size_alloc, size_setB, size_drew]; omega)) ?_ )))) (by omega), hU9.hb⟩
  · have hb3p := hb3.h; try simp only [al_ete, al_dfn, Bool.not_eq_true', Bool.not_eq_false', al_ne, Bool.not_not, al_nn] at hb3p
    refine W_exit ?_
    refine thn_exit ?_
    refine thn_exit ?_
    refine inBlk_exit ?_
    refine thn_normal ?_
    refine W_seq ?_
    have hi8 : i = 8 := by omega
    subst hi8
    have hnwY : nw R8 = bvY (ycut L off n) := by rw [← bv_rep (64 - n), hD2e]; exact nw_of hR8 (by simpa using hRv)
    have hpx : Xt (ic .u64 R8) 0 (0 + 8) (ic .u64 R8) := Xt.whole rfl (by rw [size_ic]; omega)
    have hps8 : (Value.agg (ic .u64 R8)).cells.size = 8 := by simp only [Value.cells, size_ic]; omega
    refine W_region rfl ?_
    refine WO_loadA _ Hvac.isAgg308 Hvac.sizeOf308 rfl (Hb.h (by repeat (first | assumption | exact Hb.newY _ _ | refine Hb.alloc ?_ | refine Hb.drew ?_ | refine Hb.ext (by assumption) ?_ | exact Hb.setSameL (by first | omega | (simp only [size_alloc, size_setB, size_drew]; omega)) | exact Hb.setSame (by assumption) | refine Hb.set (by first | omega | (simp only [size_alloc, size_setB, size_drew]; omega)) ?_ ))) (by first | omega | assumption | rfl | decide | exact Nat.le_refl _ | (simp only [size_ic, Value.cells]; omega) | (simp; omega) | simp) (Xt.h (by first | assumption | exact Xt.whole rfl rfl | exact Xt.whole rfl (by assumption) | exact Xt.whole rfl (by simp only [size_ic, Value.cells]; omega) | exact ⟨rfl⟩)) ?_
    refine WO_storeW Hvac.sizeOf308 rfl (v := .agg _) rfl (Hb.h (by repeat (first | assumption | exact Hb.newY _ _ | refine Hb.alloc ?_ | refine Hb.drew ?_ | refine Hb.ext (by assumption) ?_ | exact Hb.setSameL (by first | omega | (simp only [size_alloc, size_setB, size_drew]; omega)) | exact Hb.setSame (by assumption) | refine Hb.set (by first | omega | (simp only [size_alloc, size_setB, size_drew]; omega)) ?_ ))) rfl (by simp only [size_ic, Value.cells]; omega) (by first | rfl | (simp only [size_ic]; omega)) oneCell_ic ?_
    refine WO_nil ?_
    refine thn_normal ?_
    refine W_ret ?_
    refine bodyQ_cell1 Hvac.results236 rfl Hvac.isAgg308 Hvac.sizeOf308 rfl (Hb.h (by repeat (first | assumption | exact Hb.newY _ _ | refine Hb.alloc ?_ | refine Hb.drew ?_ | refine Hb.ext (by assumption) ?_ | exact Hb.setSameL (by first | omega | (simp only [size_alloc, size_setB, size_drew]; omega)) | exact Hb.setSame (by assumption) | refine Hb.set (by first | omega | (simp only [size_alloc, size_setB, size_drew]; omega)) ?_ ))) (by first | omega | assumption | rfl | decide | exact Nat.le_refl _ | (simp only [size_ic, Value.cells]; omega) | (simp; omega) | simp) ?_
    exact ⟨(by repeat (first | assumption | exact Ext.refl _ | refine Ext.alloc ?_ _ | refine Ext.drew ?_ | refine Ext.setB ?_ (by first | omega | (simp only [size_alloc, size_setB, size_drew]; omega)) _ | refine Ext.trans ?_ (by assumption))), R8, rfl, hr8, hR8, hnwY⟩

set_option maxRecDepth 10000 in
set_option maxHeartbeats 4000000 in
theorem ntvCost_ex (k : Nat) (s : SV) (L : List Int) (w : World) (hs : SC w .u8 1 s L) (hL : By8 L) (hc : s.2.1 ≤ s.2.2) (hl : s.2.1 ≤ 1000000) (hk : k = 4 ∨ k = 5) : Ret Hvac.prog 170 #[.int .u8 (k : Int), .slice s.1 s.2.1 s.2.2] w fun u w' => Ext w w' ∧ ∃ (c : Int) (ok : Bool), u = .tuple #[.int .u64 c, .bool ok] ∧ (0 ≤ c ∧ c ≤ 1000000) ∧ c = ((ynatc k L).1 : Int) ∧ ok = (ynatc k L).2 := by
  refine Ret_of_W Hvac.func170 rfl rfl ?_
  refine W_seq ?_
  refine W_region rfl ?_
  refine WO_p (PS_assign_int rfl) ?_
  refine WO_p (PS_assign_bool rfl) ?_
  refine WO_nil ?_
  refine thn_normal ?_
  refine W_seq ?_
  refine W_seq ?_
  refine W_region rfl ?_
  refine WO_p (PS_move_int rfl) ?_
  refine WO_nil ?_
  refine thn_normal ?_
  refine W_block ?_
  refine W_seq ?_
  refine W_region rfl ?_
  refine WO_p (PS_eql rfl rfl) ?_
  refine WO_p (PS_assign_bool rfl) ?_
  refine WO_nil ?_
  refine thn_normal ?_
  refine W_if rfl (fun hb2 => ?_) (fun hb2 => ?_)
  · have hb2p := hb2.h; try simp only [al_ete, al_dfn, Bool.not_eq_true', Bool.not_eq_false', al_ne, Bool.not_not, al_nn] at hb2p
    have hkY := ynatc4 (L := L) (show k = 4 by omega)
    have hsl := hs.1
    simp only [Nat.mul_one] at hsl
    refine W_seq ?_
    refine W_region rfl ?_
    refine WO_p (PS_move_slice rfl) ?_
    refine WO_p (PS_lenS Hvac.runUnderlying32 rfl) ?_
    refine WO_p (PS_conv_u64n Hvac.runUnderlying3 Hvac.runUnderlying26 rfl (by omega) (by omega)) ?_
    refine WO_call Hvac.call142 (by rfl) (Ret.mono (words_spec _ _ ⟨by omega, by omega⟩) ?_)
    rintro _ _ ⟨rfl, rfl⟩
    refine WO_p (PS_mul_u64n rfl rfl (by omega) (by omega)) ?_
    refine WO_p (PS_add_u64n rfl rfl (by omega) (by omega)) ?_
    refine WO_p (PS_assign_int rfl) ?_
    refine WO_p (PS_assign_bool rfl) ?_
    refine WO_nil ?_
    refine thn_normal ?_
    refine W_ret ?_
    refine inBlk_ret ?_
    refine thn_ret ?_
    refine bodyQ_ret2 Hvac.results170 rfl rfl (.int _ _) (.bool _) rfl rfl ?_
    exact ⟨(by repeat (first | assumption | exact Ext.refl _ | refine Ext.alloc ?_ _ | refine Ext.drew ?_ | refine Ext.setB ?_ (by first | omega | (simp only [size_alloc, size_setB, size_drew]; omega)) _ | exact Ext.trans (by assumption) (by assumption) | refine Ext.trans ?_ (by assumption))), _, _, rfl, ⟨by omega, by omega⟩, by rw [hkY]; show _ = ((15 + 3 * ((L.length + 31) / 32) : Nat) : Int); omega, by rw [hkY]⟩
  · have hb2p := hb2.h; try simp only [al_ete, al_dfn, Bool.not_eq_true', Bool.not_eq_false', al_ne, Bool.not_not, al_nn] at hb2p
    refine W_seq ?_
    refine W_region rfl ?_
    refine WO_p (PS_eql rfl rfl) ?_
    refine WO_p (PS_assign_bool rfl) ?_
    refine WO_nil ?_
    refine thn_normal ?_
    refine W_if rfl (fun hb5 => ?_) (fun hb5 => ?_)
    · have hb5p := hb5.h; try simp only [al_ete, al_dfn, Bool.not_eq_true', Bool.not_eq_false', al_ne, Bool.not_not, al_nn] at hb5p
      refine W_seq ?_
      refine W_region rfl ?_
      refine WO_p (PS_move_slice rfl) ?_
      refine WO_call Hvac.call226 (by rfl) (Ret.mono (lengths_ex s L _ (SC.ext hs (by repeat (first | assumption | exact Ext.refl _ | refine Ext.alloc ?_ _ | refine Ext.drew ?_ | refine Ext.setB ?_ (by first | omega | (simp only [size_alloc, size_setB, size_drew]; omega)) _ | exact Ext.trans (by assumption) (by assumption) | refine Ext.trans ?_ (by assumption)))) hL hc hl) ?_)
      rintro _ w226_5 ⟨hE226_5, nb, ne, nm, ok, rfl, hnb, hne, hnm, hnbY, hneY, hnmY, hokY⟩
      have hz226_5 := hE226_5.1
      try simp only [size_alloc, size_setB, size_drew] at hz226_5
      refine WO_p (PS_move_tuple rfl) ?_
      refine WO_p (PS_extract_int rfl rfl) ?_
      refine WO_p (PS_extract_int rfl rfl) ?_
      refine WO_p (PS_extract_int rfl rfl) ?_
      refine WO_p (PS_extract_bool rfl rfl) ?_
      refine WO_p (PS_assign_int rfl) ?_
      refine WO_p (PS_assign_int rfl) ?_
      refine WO_p (PS_assign_int rfl) ?_
      refine WO_p (PS_assign_bool rfl) ?_
      refine WO_nil ?_
      refine thn_normal ?_
      refine W_seq ?_
      refine W_seq ?_
      refine W_region rfl ?_
      refine WO_p (PS_move_bool rfl) ?_
      refine WO_p (PS_not rfl) ?_
      refine WO_nil ?_
      refine thn_normal ?_
      refine W_if rfl (fun hb9 => ?_) (fun hb9 => ?_)
      · have hb9p := hb9.h; try simp only [al_ete, al_dfn, Bool.not_eq_true', Bool.not_eq_false', al_ne, Bool.not_not, al_nn] at hb9p
        have hokF : ok = false := by simpa using hb9p
        have hkY := ynatc0 (L := L) (show k = 5 by omega) (fun h => by rw [hokY.2 h] at hokF; cases hokF)
        refine W_seq ?_
        refine W_region rfl ?_
        refine WO_p (PS_assign_int rfl) ?_
        refine WO_p (PS_assign_bool rfl) ?_
        refine WO_nil ?_
        refine thn_normal ?_
        refine W_ret ?_
        refine thn_ret ?_
        refine inBlk_ret ?_
        refine thn_ret ?_
        refine bodyQ_ret2 Hvac.results170 rfl rfl (.int _ _) (.bool _) rfl rfl ?_
        exact ⟨(by repeat (first | assumption | exact Ext.refl _ | refine Ext.alloc ?_ _ | refine Ext.drew ?_ | refine Ext.setB ?_ (by first | omega | (simp only [size_alloc, size_setB, size_drew]; omega)) _ | exact Ext.trans (by assumption) (by assumption) | refine Ext.trans ?_ (by assumption))), _, _, rfl, ⟨by omega, by omega⟩, by rw [hkY]; rfl, by rw [hkY]⟩
      · have hb9p := hb9.h; try simp only [al_ete, al_dfn, Bool.not_eq_true', Bool.not_eq_false', al_ne, Bool.not_not, al_nn] at hb9p
        have hokT : ok = true := by simpa using hb9p
        have hkY := ynatc5 (L := L) (show k = 5 by omega) (hokY.1 hokT)
        refine W_skip ?_
        refine thn_normal ?_
        refine W_seq ?_
        refine W_region rfl ?_
        refine WO_p (PS_move_int rfl) ?_
        refine WO_p (PS_move_int rfl) ?_
        refine WO_p (PS_max rfl rfl) ?_
        rw [maxIf]
        refine WO_p (PS_conv_u64n Hvac.runUnderlying3 Hvac.runUnderlying26 rfl (by omega) (by omega)) ?_
        refine WO_p (PS_add_u64n rfl rfl (by omega) (by omega)) ?_
        refine WO_p (PS_quo_u64 rfl rfl (by omega) (by omega) (by omega)) ?_
        obtain ⟨wd, hwd, hwd9⟩ : ∃ wd : Int, (max (nb : Int) nm + 7) / 8 = wd ∧ (0 ≤ wd ∧ wd ≤ 9) := ⟨_, rfl, by omega⟩
        rw [hwd]
        refine WO_p (PS_assign_int rfl) ?_
        refine WO_nil ?_
        refine thn_normal ?_
        refine W_seq ?_
        refine W_region rfl ?_
        refine WO_allocG Hvac.zeroValue27 ?_
        intro b11 v11 hg11 hE11 hH11 hl11
        try simp only [size_alloc, size_setB, size_drew] at hg11
        have hzz11 := hE11.1
        try simp only [size_alloc, size_setB, size_drew] at hzz11
        replace hH11 : Hb v11 b11 (.cells (ic .u8 (List.replicate 32 0)) 27 (0, 0)) := hH11
        refine WO_nil ?_
        refine thn_normal ?_
        refine W_seq ?_
        refine W_region rfl ?_
        refine WO_p (PS_slA Hvac.runUnderlying27 Hvac.sizeOf5 rfl (by omega)) ?_
        refine WO_p (PS_move_slice rfl) ?_
        refine WO_p (PS_move_int rfl) ?_
        refine WO_p (PS_add_i64n rfl rfl (by omega) (by omega)) ?_
        rw [show (96 : Int) + nb = ((96 + nb : Nat) : Int) by omega]
        refine WO_p (PS_move_int rfl) ?_
        refine WO_p (PS_min rfl rfl) ?_
        rw [minIf, show min (ne : Int) 32 = ((min (α := Nat) ne 32 : Nat) : Int) by omega]
        refine WO_call Hvac.call227 (by rfl) (Ret.mono (part_ex b11 32 27 s L (96 + nb) (min (α := Nat) ne 32) _ (Hb.mk (Hb.h (by repeat (first | assumption | exact Hb.newY _ _ | refine Hb.alloc ?_ | refine Hb.drew ?_ | refine Hb.ext (by assumption) ?_ | exact Hb.setSameL (by first | omega | (simp only [size_alloc, size_setB, size_drew]; omega)) | exact Hb.setSame (by assumption) | refine Hb.set (by first | omega | (simp only [size_alloc, size_setB, size_drew]; omega)) ?_ )))) (by omega) (SC.ext hs (by repeat (first | assumption | exact Ext.refl _ | refine Ext.alloc ?_ _ | refine Ext.drew ?_ | refine Ext.setB ?_ (by first | omega | (simp only [size_alloc, size_setB, size_drew]; omega)) _ | exact Ext.trans (by assumption) (by assumption) | refine Ext.trans ?_ (by assumption)))) hL hc hl (by omega) (by omega)) ?_)
        rintro _ w6 hT6
        obtain ⟨D6, hD6e⟩ : ∃ D6, List.replicate (32 - min (α := Nat) ne 32) 0 ++ ycut L (96 + nb) (min (α := Nat) ne 32) = D6 := ⟨_, rfl⟩
        rw [hD6e] at hT6
        have hz6 := hT6.keep.sz
        have hE6' : Ext w w6 := hT6.ext (by repeat (first | assumption | exact Ext.refl _ | refine Ext.alloc ?_ _ | refine Ext.drew ?_ | refine Ext.setB ?_ (by first | omega | (simp only [size_alloc, size_setB, size_drew]; omega)) _ | exact Ext.trans (by assumption) (by assumption) | refine Ext.trans ?_ (by assumption))) (by omega)
        have hD6 : By D6 32 := ⟨by rw [hT6.len]; simp, hT6.ty (by_zero 32)⟩
        have hD6l := hD6.1
        have hb116 := hT6.hb
        have hfw := fromB_wd hD6.2
        have hfwl := hfw.1
        have hxw : Xt (ic .u8 D6) 0 (0 + 32) (ic .u8 D6) := Xt.whole rfl (by rw [size_ic]; omega)
        have hhdY : wn (fromB D6) = ynhead L := by rw [wn_fromB hD6, ← hD6e, bv_rep, hnbY, hneY]; rfl
        refine WO_nil ?_
        refine thn_normal ?_
        refine W_seq ?_
        refine W_region rfl ?_
        refine WO_loadA _ Hvac.isAgg27 Hvac.sizeOf27 rfl (Hb.h (by repeat (first | assumption | exact Hb.newY _ _ | refine Hb.alloc ?_ | refine Hb.drew ?_ | refine Hb.ext (by assumption) ?_ | exact Hb.setSameL (by first | omega | (simp only [size_alloc, size_setB, size_drew]; omega)) | exact Hb.setSame (by assumption) | refine Hb.set (by first | omega | (simp only [size_alloc, size_setB, size_drew]; omega)) ?_ ))) (by first | omega | assumption | rfl | decide | exact Nat.le_refl _ | (simp only [size_ic, Value.cells]; omega) | (simp; omega) | simp) (Xt.h (by first | assumption | exact Xt.whole rfl rfl | exact Xt.whole rfl (by assumption) | exact Xt.whole rfl (by simp only [size_ic, Value.cells]; omega) | exact ⟨rfl⟩)) ?_
        refine WO_call Hvac.call69 (by rfl) (Ret.mono (fromBytes_spec _ _ hD6) ?_)
        rintro _ w69_10 ⟨rfl, hE69_10⟩
        have hz69_10 := hE69_10.1
        try simp only [size_alloc, size_setB, size_drew] at hz69_10
        refine WO_allocG Hvac.zeroValue61 ?_
        intro b12 v12 hg12 hE12 hH12 hl12
        try simp only [size_alloc, size_setB, size_drew] at hg12
        have hzz12 := hE12.1
        try simp only [size_alloc, size_setB, size_drew] at hzz12
        first | refine WO_storeW Hvac.sizeOf61 rfl (v := .agg _) rfl (Hb.h (by repeat (first | assumption | exact Hb.newY _ _ | refine Hb.alloc ?_ | refine Hb.drew ?_ | refine Hb.ext (by assumption) ?_ | exact Hb.setSameL (by first | omega | (simp only [size_alloc, size_setB, size_drew]; omega)) | exact Hb.setSame (by assumption) | refine Hb.set (by first | omega | (simp only [size_alloc, size_setB, size_drew]; omega)) ?_ ))) rfl (by first | omega | assumption | rfl | decide | exact Nat.le_refl _ | (simp only [size_ic, Value.cells]; omega) | (simp; omega) | simp) (by first | omega | assumption | rfl | decide | exact Nat.le_refl _ | (simp only [size_ic, Value.cells]; omega) | (simp; omega) | simp) (by first | exact oneCell_ic | assumption | exact one_Ws2 _ | exact one_YA2 _ | exact one_YSl2 _ | exact one_YM2 _ | exact one_YT2 _ | exact one_L2 _) ?_ | refine WO_store Hvac.sizeOf61 rfl (v := .agg _) rfl (Hb.h (by repeat (first | assumption | exact Hb.newY _ _ | refine Hb.alloc ?_ | refine Hb.drew ?_ | refine Hb.ext (by assumption) ?_ | exact Hb.setSameL (by first | omega | (simp only [size_alloc, size_setB, size_drew]; omega)) | exact Hb.setSame (by assumption) | refine Hb.set (by first | omega | (simp only [size_alloc, size_setB, size_drew]; omega)) ?_ ))) (by first | omega | assumption | rfl | decide | exact Nat.le_refl _ | (simp only [size_ic, Value.cells]; omega) | (simp; omega) | simp) (by first | omega | assumption | rfl | decide | exact Nat.le_refl _ | (simp only [size_ic, Value.cells]; omega) | (simp; omega) | simp) (by first | exact oneCell_ic | assumption | exact one_Ws2 _ | exact one_YA2 _ | exact one_YSl2 _ | exact one_YM2 _ | exact one_YT2 _ | exact one_L2 _) ?_
        refine WO_nil ?_
        refine thn_normal ?_
        refine W_seq ?_
        refine W_region rfl ?_
        refine WO_p (PS_assign_int rfl) ?_
        refine WO_nil ?_
        refine thn_normal ?_
        refine W_seqJ (fun ρ w' => ∃ tn : Int, Fr [(7, .int .i64 ne), (10, .int .u64 wd), (13, .int .u64 tn)] ρ ∧ Ext w w' ∧ 0 ≤ tn ∧ tn ≤ 256 ∧ tn = (ynt1 L : Int)) ?_ ?_
        · skip
          refine W_seq ?_
          refine W_region rfl ?_
          refine WO_loadA _ Hvac.isAgg61 Hvac.sizeOf61 rfl (Hb.h (by repeat (first | assumption | exact Hb.newY _ _ | refine Hb.alloc ?_ | refine Hb.drew ?_ | refine Hb.ext (by assumption) ?_ | exact Hb.setSameL (by first | omega | (simp only [size_alloc, size_setB, size_drew]; omega)) | exact Hb.setSame (by assumption) | refine Hb.set (by first | omega | (simp only [size_alloc, size_setB, size_drew]; omega)) ?_ ))) (by first | omega | assumption | rfl | decide | exact Nat.le_refl _ | (simp only [size_ic, Value.cells]; omega) | (simp; omega) | simp) (Xt.h (by first | assumption | exact Xt.whole rfl rfl | exact Xt.whole rfl (by assumption) | exact Xt.whole rfl (by simp only [size_ic, Value.cells]; omega) | exact ⟨rfl⟩)) ?_
          refine WO_call Hvac.call228 (by rfl) (Ret.mono (limbs_ex _ _ hfw) ?_)
          rintro _ w228_11 ⟨hE228_11, n, rfl, hn4, hnz, hnzz⟩
          have hz228_11 := hE228_11.1
          try simp only [size_alloc, size_setB, size_drew] at hz228_11
          refine WO_p (PS_assign_int rfl) ?_
          refine WO_nil ?_
          refine thn_normal ?_
          refine W_seq ?_
          refine W_region rfl ?_
          refine WO_p (PS_move_int rfl) ?_
          refine WO_p (PS_gtr rfl rfl) ?_
          refine WO_nil ?_
          refine thn_normal ?_
          refine W_if rfl (fun hb14 => ?_) (fun hb14 => ?_)
          · have hb14p := hb14.h; try simp only [al_ete, al_dfn, Bool.not_eq_true', Bool.not_eq_false', al_ne, Bool.not_not, al_nn] at hb14p
            have hceN : Ce (ic .u64 (fromB D6)) (0 + ((n:Int) - 1).toNat * 1) (.int .u64 ((fromB D6).getD (n - 1) 0)) := by rw [show ((n:Int) - 1).toNat = n - 1 by omega]; exact ce_ic (by omega)
            refine W_region rfl ?_
            refine WO_p (PS_move_int rfl) ?_
            refine WO_p (PS_sub_u8n rfl rfl (by omega) (by omega)) ?_
            refine WO_p (PS_conv_u64n Hvac.runUnderlying5 Hvac.runUnderlying26 rfl (by omega) (by omega)) ?_
            refine WO_p (PS_mul_u64n rfl rfl (by omega) (by omega)) ?_
            refine WO_p (PS_move_int rfl) ?_
            refine WO_p (PS_sub_u8n rfl rfl (by omega) (by omega)) ?_
            refine WO_p (PS_indexA Hvac.runUnderlying61 Hvac.sizeOf26 rfl rfl (by omega) (by omega)) ?_
            refine WO_load (.int _ _) Hvac.isAgg26 rfl (Hb.h (by repeat (first | assumption | exact Hb.newY _ _ | refine Hb.alloc ?_ | refine Hb.drew ?_ | refine Hb.ext (by assumption) ?_ | exact Hb.setSameL (by first | omega | (simp only [size_alloc, size_setB, size_drew]; omega)) | exact Hb.setSame (by assumption) | refine Hb.set (by first | omega | (simp only [size_alloc, size_setB, size_drew]; omega)) ?_ ))) (Ce.h (by first | assumption | exact ⟨rfl⟩)) ?_
            refine WO_call Hvac.call229 (by rfl) (Ret.mono (len64_spec _ _ (hfw.ul.get (n - 1))) ?_)
            rintro _ w229_14 ⟨hw229_14, ln, rfl, hln, hLn⟩
            rw [hw229_14]
            clear hw229_14
            have hln1 : 1 ≤ ln := ln_pos hLn (hfw.ul.get (n - 1)).1 (hnz (by omega))
            have hynb := limb_ynb hfw hn4 (by omega) hnzz (hnz (by omega)) hLn hln1
            rw [hhdY] at hynb
            have ht1Y := ynt1_of hynb.symm
            refine WO_p (PS_conv_u64n Hvac.runUnderlying3 Hvac.runUnderlying26 rfl (by omega) (by omega)) ?_
            refine WO_p (PS_add_u64n rfl rfl (by omega) (by omega)) ?_
            refine WO_p (PS_sub_u64n rfl rfl (by omega) (by omega)) ?_
            refine WO_p (PS_assign_int rfl) ?_
            refine WO_nil ?_
            refine thn_normal ?_
            exact ⟨_, ⟨rfl, rfl, rfl, trivial⟩, (by repeat (first | assumption | exact Ext.refl _ | refine Ext.alloc ?_ _ | refine Ext.drew ?_ | refine Ext.setB ?_ (by first | omega | (simp only [size_alloc, size_setB, size_drew]; omega)) _ | exact Ext.trans (by assumption) (by assumption) | refine Ext.trans ?_ (by assumption))), by omega, by omega, by omega⟩
          · have hb14p := hb14.h; try simp only [al_ete, al_dfn, Bool.not_eq_true', Bool.not_eq_false', al_ne, Bool.not_not, al_nn] at hb14p
            refine W_skip ?_
            refine thn_normal ?_
            exact ⟨0, ⟨rfl, rfl, rfl, trivial⟩, (by repeat (first | assumption | exact Ext.refl _ | refine Ext.alloc ?_ _ | refine Ext.drew ?_ | refine Ext.setB ?_ (by first | omega | (simp only [size_alloc, size_setB, size_drew]; omega)) _ | exact Ext.trans (by assumption) (by assumption) | refine Ext.trans ?_ (by assumption))), by omega, by omega, (by rw [ynt1_of (N := 0) (by rw [← hhdY, limb_zero hfw (fun k _ => hnzz k (by omega))]; rfl)]; rfl)⟩
        · rintro ρ w16 ⟨tn, hFr16, hE16, ht0, ht1, htY⟩
          refine W_env _ hFr16 ?_
          refine W_seqJ (fun ρ w' => ∃ tn : Int, Fr [(10, .int .u64 wd), (13, .int .u64 tn)] ρ ∧ Ext w w' ∧ 0 ≤ tn ∧ tn ≤ 512 ∧ tn = (ynturns L : Int)) ?_ ?_
          · skip
            refine W_seq ?_
            refine W_region rfl ?_
            refine WO_p (PS_move_int rfl) ?_
            refine WO_p (PS_gtr rfl rfl) ?_
            refine WO_nil ?_
            refine thn_normal ?_
            refine W_if rfl (fun hb17 => ?_) (fun hb17 => ?_)
            · have hb17p := hb17.h; try simp only [al_ete, al_dfn, Bool.not_eq_true', Bool.not_eq_false', al_ne, Bool.not_not, al_nn] at hb17p
              have hturn : ynturns L = ynt1 L + 8 * (ne - 32) := by unfold ynturns; rw [← hneY, if_pos (by omega)]
              refine W_region rfl ?_
              refine WO_p (PS_move_int rfl) ?_
              refine WO_p (PS_move_int rfl) ?_
              refine WO_p (PS_sub_i64n rfl rfl (by omega) (by omega)) ?_
              refine WO_p (PS_conv_u64n Hvac.runUnderlying3 Hvac.runUnderlying26 rfl (by omega) (by omega)) ?_
              refine WO_p (PS_mul_u64n rfl rfl (by omega) (by omega)) ?_
              refine WO_p (PS_add_u64n rfl rfl (by omega) (by omega)) ?_
              refine WO_p (PS_assign_int rfl) ?_
              refine WO_nil ?_
              refine thn_normal ?_
              exact ⟨_, ⟨rfl, rfl, trivial⟩, (by repeat (first | assumption | exact Ext.refl _ | refine Ext.alloc ?_ _ | refine Ext.drew ?_ | refine Ext.setB ?_ (by first | omega | (simp only [size_alloc, size_setB, size_drew]; omega)) _ | exact Ext.trans (by assumption) (by assumption) | refine Ext.trans ?_ (by assumption))), by omega, by omega, by omega⟩
            · have hb17p := hb17.h; try simp only [al_ete, al_dfn, Bool.not_eq_true', Bool.not_eq_false', al_ne, Bool.not_not, al_nn] at hb17p
              have hturn : ynturns L = ynt1 L := by unfold ynturns; rw [← hneY, if_neg (by omega)]
              refine W_skip ?_
              refine thn_normal ?_
              exact ⟨tn, ⟨rfl, rfl, trivial⟩, (by repeat (first | assumption | exact Ext.refl _ | refine Ext.alloc ?_ _ | refine Ext.drew ?_ | refine Ext.setB ?_ (by first | omega | (simp only [size_alloc, size_setB, size_drew]; omega)) _ | exact Ext.trans (by assumption) (by assumption) | refine Ext.trans ?_ (by assumption))), by omega, by omega, by omega⟩
          · rintro ρ w18 ⟨tn, hFr18, hE18, ht0, ht1, htY⟩
            refine W_env _ hFr18 ?_
            have hww : 0 ≤ wd * wd ∧ wd * wd ≤ 81 := ⟨Int.mul_nonneg (by omega) (by omega), Int.mul_le_mul (by omega : wd ≤ 9) (by omega : wd ≤ 9) (by omega) (by decide)⟩
            have hmt : 0 ≤ wd * wd * max tn 1 ∧ wd * wd * max tn 1 ≤ 81 * 512 := ⟨Int.mul_nonneg hww.1 (by omega), Int.mul_le_mul hww.2 (by omega) (by omega) (by omega)⟩
            have hwdY : wd = (ynwide L : Int) := by rw [← hwd]; unfold ynwide; rw [← hnbY, ← hnmY]; omega
            refine W_seq ?_
            refine W_region rfl ?_
            refine WO_p (PS_move_int rfl) ?_
            refine WO_p (PS_move_int rfl) ?_
            refine WO_p (PS_mul_u64n rfl rfl (by omega) (by omega)) ?_
            refine WO_p (PS_move_int rfl) ?_
            refine WO_p (PS_max rfl rfl) ?_
            rw [maxIf]
            refine WO_p (PS_mul_u64n rfl rfl (by omega) (by omega)) ?_
            refine WO_p (PS_quo_u64 rfl rfl (by omega) (by omega) (by omega)) ?_
            refine WO_p (PS_max rfl rfl) ?_
            rw [maxIf]
            refine WO_p (PS_assign_int rfl) ?_
            refine WO_p (PS_assign_bool rfl) ?_
            refine WO_nil ?_
            refine thn_normal ?_
            refine W_ret ?_
            refine inBlk_ret ?_
            refine thn_ret ?_
            refine bodyQ_ret2 Hvac.results170 rfl rfl (.int _ _) (.bool _) rfl rfl ?_
            exact ⟨(by repeat (first | assumption | exact Ext.refl _ | refine Ext.alloc ?_ _ | refine Ext.drew ?_ | refine Ext.setB ?_ (by first | omega | (simp only [size_alloc, size_setB, size_drew]; omega)) _ | exact Ext.trans (by assumption) (by assumption) | refine Ext.trans ?_ (by assumption))), _, _, rfl, ⟨by omega, by omega⟩, by rw [hkY, hwdY, htY]; exact cost_cast _ _, by rw [hkY]⟩
    · have hb5p := hb5.h; try simp only [al_ete, al_dfn, Bool.not_eq_true', Bool.not_eq_false', al_ne, Bool.not_not, al_nn] at hb5p
      (exfalso; omega) --END

set_option maxRecDepth 10000 in
set_option maxHeartbeats 4000000 in
theorem ntvRun_ex (k : Nat) (s : SV) (L : List Int) (w : World) (hs : SC w .u8 1 s L) (hL : By8 L) (hc : s.2.1 ≤ s.2.2) (hl : s.2.1 ≤ 1000000) (hk : k = 4 ∨ k = 5) : Ret Hvac.prog 173 #[.int .u8 (k : Int), .slice s.1 s.2.1 s.2.2] w fun u w' => Ext w w' ∧ ∃ s', u = .slice s'.1 s'.2.1 s'.2.2 ∧ NewB w w' s' (ynatr k L) ∧ By8 (ynatr k L) ∧ (s'.2.1 ≤ s.2.1 ∨ s'.2.1 ≤ 64) := by
  refine Ret_of_W Hvac.func173 rfl rfl ?_
  refine W_seq ?_
  refine W_region rfl ?_
  refine WO_p (PS_assign_slice rfl) ?_
  refine WO_nil ?_
  refine thn_normal ?_
  refine W_seq ?_
  refine W_seq ?_
  refine W_region rfl ?_
  refine WO_p (PS_move_int rfl) ?_
  refine WO_p (PS_eql rfl rfl) ?_
  refine WO_nil ?_
  refine thn_normal ?_
  refine W_if rfl (fun hb2 => ?_) (fun hb2 => ?_)
  · have hb2p := hb2.h; try simp only [al_ete, al_dfn, Bool.not_eq_true', Bool.not_eq_false', al_ne, Bool.not_not, al_nn] at hb2p
    refine W_seq ?_
    refine W_region rfl ?_
    refine WO_p (PS_move_slice rfl) ?_
    refine WO_call Hvac.call97 (by rfl) (Ret.mono (copiedM_spec s L _ (SC.ext hs (by repeat (first | assumption | exact Ext.refl _ | refine Ext.alloc ?_ _ | refine Ext.drew ?_ | refine Ext.setB ?_ (by first | omega | (simp only [size_alloc, size_setB, size_drew]; omega)) _ | exact Ext.trans (by assumption) (by assumption) | refine Ext.trans ?_ (by assumption)))) hl) ?_)
    rintro _ w97_2 ⟨hE97_2, s2, rfl, hN2⟩
    have hz97_2 := hE97_2.1
    try simp only [size_alloc, size_setB, size_drew] at hz97_2
    have hl2 := hN2.len
    have hsl := hs.1
    simp only [Nat.mul_one] at hsl
    have hkY := ynatr4 (L := L) (show k = 4 by omega)
    refine WO_p (PS_assign_slice rfl) ?_
    refine WO_nil ?_
    refine thn_normal ?_
    refine W_ret ?_
    refine thn_ret ?_
    refine bodyQ_ret1 Hvac.results173 rfl (.slice _ _ _) rfl ?_
    exact ⟨(by repeat (first | assumption | exact Ext.refl _ | refine Ext.alloc ?_ _ | refine Ext.drew ?_ | refine Ext.setB ?_ (by first | omega | (simp only [size_alloc, size_setB, size_drew]; omega)) _ | exact Ext.trans (by assumption) (by assumption) | refine Ext.trans ?_ (by assumption))), s2, rfl, by rw [hkY]; exact hN2.mono (by first | omega | exact Nat.le_refl _), by rw [hkY]; exact hL, Or.inl (by omega)⟩
  · have hb2p := hb2.h; try simp only [al_ete, al_dfn, Bool.not_eq_true', Bool.not_eq_false', al_ne, Bool.not_not, al_nn] at hb2p
    refine W_skip ?_
    refine thn_normal ?_
    refine W_seq ?_
    refine W_region rfl ?_
    refine WO_p (PS_move_slice rfl) ?_
    refine WO_call Hvac.call226 (by rfl) (Ret.mono (lengths_ex s L _ (SC.ext hs (by repeat (first | assumption | exact Ext.refl _ | refine Ext.alloc ?_ _ | refine Ext.drew ?_ | refine Ext.setB ?_ (by first | omega | (simp only [size_alloc, size_setB, size_drew]; omega)) _ | exact Ext.trans (by assumption) (by assumption) | refine Ext.trans ?_ (by assumption)))) hL hc hl) ?_)
    rintro _ w226_3 ⟨hE226_3, nb, ne, nm, ok, rfl, hnb, hne, hnm, hnbY, hneY, hnmY, hokY⟩
    have hz226_3 := hE226_3.1
    try simp only [size_alloc, size_setB, size_drew] at hz226_3
    refine WO_p (PS_move_tuple rfl) ?_
    refine WO_p (PS_extract_int rfl rfl) ?_
    refine WO_p (PS_extract_int rfl rfl) ?_
    refine WO_p (PS_extract_int rfl rfl) ?_
    refine WO_p (PS_extract_bool rfl rfl) ?_
    refine WO_p (PS_assign_int rfl) ?_
    refine WO_p (PS_assign_int rfl) ?_
    refine WO_p (PS_assign_int rfl) ?_
    refine WO_p (PS_assign_bool rfl) ?_
    refine WO_nil ?_
    refine thn_normal ?_
    refine W_seq ?_
    refine W_seq ?_
    refine W_region rfl ?_
    refine WO_p (PS_move_int rfl) ?_
    refine WO_p (PS_neq rfl rfl) ?_
    refine WO_p (PS_move_bool rfl) ?_
    refine WO_if (t := 29) rfl (fun hb7 => ?_) (fun hb7 => ?_)
    · have hb7p := hb7.h; try simp only [al_ete, al_dfn, Bool.not_eq_true', Bool.not_eq_false', al_ne, Bool.not_not, al_nn] at hb7p
      refine WO_guardF rfl rfl hb7.h ?_
      refine WO_guardF rfl rfl hb7.h ?_
      refine WO_p (PS_pickT rfl hb7.h rfl) ?_
      refine WO_p (PS_move_bool rfl) ?_
      refine WO_guardF rfl rfl rfl ?_
      refine WO_guardF rfl rfl rfl ?_
      refine WO_p (PS_pickT rfl rfl rfl) ?_
      refine WO_nil ?_
      refine thn_normal ?_
      refine W_condT rfl rfl ?_
      refine W_seq ?_
      have hkY : ynatr k L = [] := by first | (exfalso; omega) | exact ynatr0 (show k = 5 by omega) (fun h => by rw [hokY.2 h] at hokF; cases hokF) | (rw [ynatr5 (show k = 5 by omega) (hokY.1 hokT), ← hnmY, show nm = 0 by omega]; rfl)
      refine W_region rfl ?_
      refine WO_p (PS_assign_slice rfl) ?_
      refine WO_nil ?_
      refine thn_normal ?_
      refine W_ret ?_
      refine thn_ret ?_
      refine bodyQ_ret1 Hvac.results173 rfl (.slice _ _ _) rfl ?_
      exact ⟨(by repeat (first | assumption | exact Ext.refl _ | refine Ext.alloc ?_ _ | refine Ext.drew ?_ | refine Ext.setB ?_ (by first | omega | (simp only [size_alloc, size_setB, size_drew]; omega)) _ | exact Ext.trans (by assumption) (by assumption) | refine Ext.trans ?_ (by assumption))), (none, 0, 0), rfl, by rw [hkY]; exact Or.inl ⟨rfl, rfl⟩, by rw [hkY]; exact (fun z hz => by cases hz), Or.inr (by show (0 : Nat) ≤ 64; decide)⟩
    · have hb7p := hb7.h; try simp only [al_ete, al_dfn, Bool.not_eq_true', Bool.not_eq_false', al_ne, Bool.not_not, al_nn] at hb7p
      refine WO_guardT rfl rfl hb7.h ?_
      refine WO_p (PS_move_bool rfl) ?_
      refine WO_guardT rfl rfl hb7.h ?_
      refine WO_p (PS_not rfl) ?_
      refine WO_p (PS_pickF rfl hb7.h rfl) ?_
      refine WO_p (PS_move_bool rfl) ?_
      refine WO_if (t := 33) rfl (fun hb9 => ?_) (fun hb9 => ?_)
      · have hb9p := hb9.h; try simp only [al_ete, al_dfn, Bool.not_eq_true', Bool.not_eq_false', al_ne, Bool.not_not, al_nn] at hb9p
        have hokF : ok = false := by simpa using hb9p
        refine WO_guardF rfl rfl hb9.h ?_
        refine WO_guardF rfl rfl hb9.h ?_
        refine WO_p (PS_pickT rfl hb9.h rfl) ?_
        refine WO_nil ?_
        refine thn_normal ?_
        refine W_condT rfl rfl ?_
        refine W_seq ?_
        have hkY : ynatr k L = [] := by first | (exfalso; omega) | exact ynatr0 (show k = 5 by omega) (fun h => by rw [hokY.2 h] at hokF; cases hokF) | (rw [ynatr5 (show k = 5 by omega) (hokY.1 hokT), ← hnmY, show nm = 0 by omega]; rfl)
        refine W_region rfl ?_
        refine WO_p (PS_assign_slice rfl) ?_
        refine WO_nil ?_
        refine thn_normal ?_
        refine W_ret ?_
        refine thn_ret ?_
        refine bodyQ_ret1 Hvac.results173 rfl (.slice _ _ _) rfl ?_
        exact ⟨(by repeat (first | assumption | exact Ext.refl _ | refine Ext.alloc ?_ _ | refine Ext.drew ?_ | refine Ext.setB ?_ (by first | omega | (simp only [size_alloc, size_setB, size_drew]; omega)) _ | exact Ext.trans (by assumption) (by assumption) | refine Ext.trans ?_ (by assumption))), (none, 0, 0), rfl, by rw [hkY]; exact Or.inl ⟨rfl, rfl⟩, by rw [hkY]; exact (fun z hz => by cases hz), Or.inr (by show (0 : Nat) ≤ 64; decide)⟩
      · have hb9p := hb9.h; try simp only [al_ete, al_dfn, Bool.not_eq_true', Bool.not_eq_false', al_ne, Bool.not_not, al_nn] at hb9p
        have hokT : ok = true := by simpa using hb9p
        refine WO_guardT rfl rfl hb9.h ?_
        refine WO_p (PS_move_int rfl) ?_
        refine WO_guardT rfl rfl hb9.h ?_
        refine WO_p (PS_eql rfl rfl) ?_
        refine WO_p (PS_pickF rfl hb9.h rfl) ?_
        refine WO_nil ?_
        refine thn_normal ?_
        refine W_if rfl (fun hb11 => ?_) (fun hb11 => ?_)
        · have hb11p := hb11.h; try simp only [al_ete, al_dfn, Bool.not_eq_true', Bool.not_eq_false', al_ne, Bool.not_not, al_nn] at hb11p
          refine W_seq ?_
          have hkY : ynatr k L = [] := by first | (exfalso; omega) | exact ynatr0 (show k = 5 by omega) (fun h => by rw [hokY.2 h] at hokF; cases hokF) | (rw [ynatr5 (show k = 5 by omega) (hokY.1 hokT), ← hnmY, show nm = 0 by omega]; rfl)
          refine W_region rfl ?_
          refine WO_p (PS_assign_slice rfl) ?_
          refine WO_nil ?_
          refine thn_normal ?_
          refine W_ret ?_
          refine thn_ret ?_
          refine bodyQ_ret1 Hvac.results173 rfl (.slice _ _ _) rfl ?_
          exact ⟨(by repeat (first | assumption | exact Ext.refl _ | refine Ext.alloc ?_ _ | refine Ext.drew ?_ | refine Ext.setB ?_ (by first | omega | (simp only [size_alloc, size_setB, size_drew]; omega)) _ | exact Ext.trans (by assumption) (by assumption) | refine Ext.trans ?_ (by assumption))), (none, 0, 0), rfl, by rw [hkY]; exact Or.inl ⟨rfl, rfl⟩, by rw [hkY]; exact (fun z hz => by cases hz), Or.inr (by show (0 : Nat) ≤ 64; decide)⟩
        · have hb11p := hb11.h; try simp only [al_ete, al_dfn, Bool.not_eq_true', Bool.not_eq_false', al_ne, Bool.not_not, al_nn] at hb11p
          have hnm0 : ¬ (nm : Int) = 0 := by simpa using hb11p
          refine W_skip ?_
          refine thn_normal ?_
          refine W_seq ?_
          refine W_region rfl ?_
          refine WO_p (PS_move_slice rfl) ?_
          refine WO_p (PS_move_int rfl) ?_
          refine WO_call Hvac.call236 (by rfl) (Ret.mono (operand_ex s L (96) nb _ (SC.ext hs (by repeat (first | assumption | exact Ext.refl _ | refine Ext.alloc ?_ _ | refine Ext.drew ?_ | refine Ext.setB ?_ (by first | omega | (simp only [size_alloc, size_setB, size_drew]; omega)) _ | exact Ext.trans (by assumption) (by assumption) | refine Ext.trans ?_ (by assumption)))) hL hc hl (by omega) (by omega)) ?_)
          rintro _ w236_11 ⟨hE236_11, R6, rfl, hR6, hRL6, hnw6⟩
          have hz236_11 := hE236_11.1
          try simp only [size_alloc, size_setB, size_drew] at hz236_11
          have hRs6 : (Value.agg (ic .u64 R6)).cells.size = 8 := by simp only [Value.cells, size_ic]; exact hR6
          refine WO_allocG Hvac.zeroValue308 ?_
          intro b9 v9 hg9 hE9 hH9 hl9
          try simp only [size_alloc, size_setB, size_drew] at hg9
          have hzz9 := hE9.1
          try simp only [size_alloc, size_setB, size_drew] at hzz9
          replace hH9 : Hb v9 b9 (.cells (ic .u64 (List.replicate 8 0)) 308 (0, 0)) := hH9
          refine WO_storeW Hvac.sizeOf308 rfl (v := .agg _) rfl (Hb.h (by repeat (first | assumption | exact Hb.newY _ _ | refine Hb.alloc ?_ | refine Hb.drew ?_ | refine Hb.ext (by assumption) ?_ | exact Hb.setSameL (by first | omega | (simp only [size_alloc, size_setB, size_drew]; omega)) | exact Hb.setSame (by assumption) | refine Hb.set (by first | omega | (simp only [size_alloc, size_setB, size_drew]; omega)) ?_ ))) rfl hRs6 (by first | rfl | (simp only [size_ic]; omega)) oneCell_ic ?_
          change WO _ _ _ _ _ (setB _ _ (.cells (ic .u64 R6) 308 (0, 0)))
          refine WO_nil ?_
          refine thn_normal ?_
          refine W_seq ?_
          refine W_region rfl ?_
          refine WO_p (PS_move_slice rfl) ?_
          refine WO_p (PS_move_int rfl) ?_
          refine WO_p (PS_add_i64n rfl rfl (by omega) (by omega)) ?_
          rw [show (96 : Int) + nb = ((96 + nb : Nat) : Int) by omega]
          refine WO_p (PS_move_int rfl) ?_
          refine WO_call Hvac.call236 (by rfl) (Ret.mono (operand_ex s L (96 + nb) ne _ (SC.ext hs (by repeat (first | assumption | exact Ext.refl _ | refine Ext.alloc ?_ _ | refine Ext.drew ?_ | refine Ext.setB ?_ (by first | omega | (simp only [size_alloc, size_setB, size_drew]; omega)) _ | exact Ext.trans (by assumption) (by assumption) | refine Ext.trans ?_ (by assumption)))) hL hc hl (by omega) (by omega)) ?_)
          rintro _ w236_12 ⟨hE236_12, R7, rfl, hR7, hRL7, hnw7⟩
          have hz236_12 := hE236_12.1
          try simp only [size_alloc, size_setB, size_drew] at hz236_12
          have hRs7 : (Value.agg (ic .u64 R7)).cells.size = 8 := by simp only [Value.cells, size_ic]; exact hR7
          refine WO_allocG Hvac.zeroValue308 ?_
          intro b10 v10 hg10 hE10 hH10 hl10
          try simp only [size_alloc, size_setB, size_drew] at hg10
          have hzz10 := hE10.1
          try simp only [size_alloc, size_setB, size_drew] at hzz10
          replace hH10 : Hb v10 b10 (.cells (ic .u64 (List.replicate 8 0)) 308 (0, 0)) := hH10
          refine WO_storeW Hvac.sizeOf308 rfl (v := .agg _) rfl (Hb.h (by repeat (first | assumption | exact Hb.newY _ _ | refine Hb.alloc ?_ | refine Hb.drew ?_ | refine Hb.ext (by assumption) ?_ | exact Hb.setSameL (by first | omega | (simp only [size_alloc, size_setB, size_drew]; omega)) | exact Hb.setSame (by assumption) | refine Hb.set (by first | omega | (simp only [size_alloc, size_setB, size_drew]; omega)) ?_ ))) rfl hRs7 (by first | rfl | (simp only [size_ic]; omega)) oneCell_ic ?_
          change WO _ _ _ _ _ (setB _ _ (.cells (ic .u64 R7) 308 (0, 0)))
          refine WO_nil ?_
          refine thn_normal ?_
          refine W_seq ?_
          refine W_region rfl ?_
          refine WO_p (PS_move_slice rfl) ?_
          refine WO_p (PS_move_int rfl) ?_
          refine WO_p (PS_add_i64n rfl rfl (by omega) (by omega)) ?_
          refine WO_p (PS_move_int rfl) ?_
          refine WO_p (PS_add_i64n rfl rfl (by omega) (by omega)) ?_
          rw [show (96 : Int) + nb + ne = ((96 + nb + ne : Nat) : Int) by omega]
          refine WO_p (PS_move_int rfl) ?_
          refine WO_call Hvac.call236 (by rfl) (Ret.mono (operand_ex s L (96 + nb + ne) nm _ (SC.ext hs (by repeat (first | assumption | exact Ext.refl _ | refine Ext.alloc ?_ _ | refine Ext.drew ?_ | refine Ext.setB ?_ (by first | omega | (simp only [size_alloc, size_setB, size_drew]; omega)) _ | exact Ext.trans (by assumption) (by assumption) | refine Ext.trans ?_ (by assumption)))) hL hc hl (by omega) (by omega)) ?_)
          rintro _ w236_13 ⟨hE236_13, R8, rfl, hR8, hRL8, hnw8⟩
          have hz236_13 := hE236_13.1
          try simp only [size_alloc, size_setB, size_drew] at hz236_13
          have hRs8 : (Value.agg (ic .u64 R8)).cells.size = 8 := by simp only [Value.cells, size_ic]; exact hR8
          refine WO_allocG Hvac.zeroValue308 ?_
          intro b11 v11 hg11 hE11 hH11 hl11
          try simp only [size_alloc, size_setB, size_drew] at hg11
          have hzz11 := hE11.1
          try simp only [size_alloc, size_setB, size_drew] at hzz11
          replace hH11 : Hb v11 b11 (.cells (ic .u64 (List.replicate 8 0)) 308 (0, 0)) := hH11
          refine WO_storeW Hvac.sizeOf308 rfl (v := .agg _) rfl (Hb.h (by repeat (first | assumption | exact Hb.newY _ _ | refine Hb.alloc ?_ | refine Hb.drew ?_ | refine Hb.ext (by assumption) ?_ | exact Hb.setSameL (by first | omega | (simp only [size_alloc, size_setB, size_drew]; omega)) | exact Hb.setSame (by assumption) | refine Hb.set (by first | omega | (simp only [size_alloc, size_setB, size_drew]; omega)) ?_ ))) rfl hRs8 (by first | rfl | (simp only [size_ic]; omega)) oneCell_ic ?_
          change WO _ _ _ _ _ (setB _ _ (.cells (ic .u64 R8) 308 (0, 0)))
          refine WO_nil ?_
          refine thn_normal ?_
          refine W_seq ?_
          refine W_region rfl ?_
          refine WO_call Hvac.call237 (by rfl) (Ret.mono (modExp_ex b9 b10 b11 308 308 308 R6 R7 R8 _ (Hb.mk (Hb.h (by repeat (first | assumption | exact Hb.newY _ _ | refine Hb.alloc ?_ | refine Hb.drew ?_ | refine Hb.ext (by assumption) ?_ | exact Hb.setSameL (by first | omega | (simp only [size_alloc, size_setB, size_drew]; omega)) | exact Hb.setSame (by assumption) | refine Hb.set (by first | omega | (simp only [size_alloc, size_setB, size_drew]; omega)) ?_ )))) (Hb.mk (Hb.h (by repeat (first | assumption | exact Hb.newY _ _ | refine Hb.alloc ?_ | refine Hb.drew ?_ | refine Hb.ext (by assumption) ?_ | exact Hb.setSameL (by first | omega | (simp only [size_alloc, size_setB, size_drew]; omega)) | exact Hb.setSame (by assumption) | refine Hb.set (by first | omega | (simp only [size_alloc, size_setB, size_drew]; omega)) ?_ )))) (Hb.mk (Hb.h (by repeat (first | assumption | exact Hb.newY _ _ | refine Hb.alloc ?_ | refine Hb.drew ?_ | refine Hb.ext (by assumption) ?_ | exact Hb.setSameL (by first | omega | (simp only [size_alloc, size_setB, size_drew]; omega)) | exact Hb.setSame (by assumption) | refine Hb.set (by first | omega | (simp only [size_alloc, size_setB, size_drew]; omega)) ?_ )))) hR6 hR7 hR8 hRL6 hRL7 hRL8) ?_)
          rintro _ w237_14 ⟨hE237_14, R12, rfl, hR12, hRL12, hnw12⟩
          have hz237_14 := hE237_14.1
          try simp only [size_alloc, size_setB, size_drew] at hz237_14
          have hRs12 : (Value.agg (ic .u64 R12)).cells.size = 8 := by simp only [Value.cells, size_ic]; exact hR12
          have hpx : Xt (ic .u64 R12) 0 (0 + 8) (ic .u64 R12) := Xt.whole rfl (by rw [size_ic]; omega)
          refine WO_allocG Hvac.zeroValue308 ?_
          intro b12 v12 hg12 hE12 hH12 hl12
          try simp only [size_alloc, size_setB, size_drew] at hg12
          have hzz12 := hE12.1
          try simp only [size_alloc, size_setB, size_drew] at hzz12
          replace hH12 : Hb v12 b12 (.cells (ic .u64 (List.replicate 8 0)) 308 (0, 0)) := hH12
          refine WO_storeW Hvac.sizeOf308 rfl (v := .agg _) rfl (Hb.h (by repeat (first | assumption | exact Hb.newY _ _ | refine Hb.alloc ?_ | refine Hb.drew ?_ | refine Hb.ext (by assumption) ?_ | exact Hb.setSameL (by first | omega | (simp only [size_alloc, size_setB, size_drew]; omega)) | exact Hb.setSame (by assumption) | refine Hb.set (by first | omega | (simp only [size_alloc, size_setB, size_drew]; omega)) ?_ ))) rfl hRs12 (by first | rfl | (simp only [size_ic]; omega)) oneCell_ic ?_
          change WO _ _ _ _ _ (setB _ _ (.cells (ic .u64 R12) 308 (0, 0)))
          refine WO_nil ?_
          refine thn_normal ?_
          refine W_seq ?_
          refine W_region rfl ?_
          refine WO_allocG Hvac.zeroValue312 ?_
          intro b13 v13 hg13 hE13 hH13 hl13
          try simp only [size_alloc, size_setB, size_drew] at hg13
          have hzz13 := hE13.1
          try simp only [size_alloc, size_setB, size_drew] at hzz13
          replace hH13 : Hb v13 b13 (.cells (ic .u8 (List.replicate 64 0)) 312 (0, 0)) := hH13
          refine WO_nil ?_
          refine thn_normal ?_
          refine W_seq ?_
          refine W_seq ?_
          refine W_region rfl ?_
          refine WO_loadA _ Hvac.isAgg308 Hvac.sizeOf308 rfl (Hb.h (by repeat (first | assumption | exact Hb.newY _ _ | refine Hb.alloc ?_ | refine Hb.drew ?_ | refine Hb.ext (by assumption) ?_ | exact Hb.setSameL (by first | omega | (simp only [size_alloc, size_setB, size_drew]; omega)) | exact Hb.setSame (by assumption) | refine Hb.set (by first | omega | (simp only [size_alloc, size_setB, size_drew]; omega)) ?_ ))) (by first | omega | assumption | rfl | decide | exact Nat.le_refl _ | (simp only [size_ic, Value.cells]; omega) | (simp; omega) | simp) (Xt.h (by first | assumption | exact Xt.whole rfl rfl | exact Xt.whole rfl (by assumption) | exact Xt.whole rfl (by simp only [size_ic, Value.cells]; omega) | exact ⟨rfl⟩)) ?_
          refine WO_p (PS_move_int rfl) ?_
          refine WO_nil ?_
          refine thn_normal ?_
          refine W_block ?_
          refine W_loopN (fun m ρ w' => ∃ (i : Nat) (D12 : List Int), i + m = 8 ∧ D12.length = 64 ∧ By8 D12 ∧ lvr R12 0 i = ((bvY (D12.drop (64 - 8 * i)) : Nat) : Int) ∧ Fr [(7, .int .i64 nm), (13, .pointer (some ⟨b13, 0, none⟩)), (53, .agg (ic .u64 R12)), (54, .int .i64 i)] ρ ∧ Ext w w' ∧ v13.heap.size ≤ w'.heap.size ∧ Hb w' b13 (.cells (ic .u8 D12) 312 (0, 0))) 8 ?_ ?_
          · exact ⟨0, List.replicate 64 0, rfl, by simp, by_zero 64, (by rw [List.drop_eq_nil_of_le (by simp)]; rfl), ⟨rfl, rfl, rfl, rfl, trivial⟩, (by repeat (first | assumption | exact Ext.refl _ | refine Ext.alloc ?_ _ | refine Ext.drew ?_ | refine Ext.setB ?_ (by first | omega | (simp only [size_alloc, size_setB, size_drew]; omega)) _ | refine Ext.trans ?_ (by assumption))), Nat.le_refl _, Hb.mk (Hb.h (by repeat (first | assumption | exact Hb.newY _ _ | refine Hb.alloc ?_ | refine Hb.drew ?_ | refine Hb.ext (by assumption) ?_ | exact Hb.setSameL (by first | omega | (simp only [size_alloc, size_setB, size_drew]; omega)) | exact Hb.setSame (by assumption) | refine Hb.set (by first | omega | (simp only [size_alloc, size_setB, size_drew]; omega)) ?_ )))⟩
          intro m ρ w12 hI
          obtain ⟨i, D12, him, hd12, hD12, hDv, hF12, hE12, hz12v, hb1312⟩ := hI
          refine W_env _ hF12 ?_
          have hz12 := hE12.1
          refine W_seq ?_
          refine W_region rfl ?_
          refine WO_p (PS_lss rfl rfl) ?_
          refine WO_nil ?_
          refine thn_normal ?_
          refine W_seq ?_
          refine W_if rfl (fun hb17 => ?_) (fun hb17 => ?_)
          · have hb17p := hb17.h; try simp only [al_ete, al_dfn, Bool.not_eq_true', Bool.not_eq_false', al_ne, Bool.not_not, al_nn] at hb17p
            have hceR : R12[(i : Int).toNat]? = some (R12.getD i 0) := by rw [Int.toNat_natCast, List.getD_eq_getElem?_getD, List.getElem?_eq_getElem (by omega)]; rfl
            refine W_skip ?_
            refine thn_normal ?_
            refine W_seq ?_
            refine W_block ?_
            refine W_seq ?_
            refine W_region rfl ?_
            refine WO_p (PS_move_int rfl) ?_
            refine WO_p (PS_indexV (k := .u64) (v := R12.getD i 0) (L := R12) Hvac.runUnderlying308 Hvac.sizeOf26 Hvac.isAgg26 rfl rfl (by omega) (by omega) hceR) ?_
            refine WO_p (PS_assign_int rfl) ?_
            refine WO_p (PS_assign_int rfl) ?_
            refine WO_nil ?_
            refine thn_normal ?_
            refine W_region rfl ?_
            refine WO_p (PS_slA Hvac.runUnderlying312 Hvac.sizeOf5 rfl (by omega)) ?_
            refine WO_p (PS_move_int rfl) ?_
            refine WO_p (PS_mul_i64n rfl rfl (by omega) (by omega)) ?_
            refine WO_p (PS_sub_i64n rfl rfl (by omega) (by omega)) ?_
            rw [show (56 : Int) - 8 * i = ((56 - 8 * i : Nat) : Int) by omega]
            refine WO_p (PS_move_int rfl) ?_
            refine WO_call Hvac.call169 (by rfl) (Ret.mono (putBE64_spec b13 64 64 (56 - 8 * i) 312 D12 _ _ (Hb.mk (Hb.h (by repeat (first | assumption | exact Hb.newY _ _ | refine Hb.alloc ?_ | refine Hb.drew ?_ | refine Hb.ext (by assumption) ?_ | exact Hb.setSameL (by first | omega | (simp only [size_alloc, size_setB, size_drew]; omega)) | exact Hb.setSame (by assumption) | refine Hb.set (by first | omega | (simp only [size_alloc, size_setB, size_drew]; omega)) ?_ )))) (by omega) (by omega) (by omega) (by omega) (hRL12.get i)) ?_)
            rintro _ w14 ⟨rfl, hT14⟩
            have hz14 := hT14.keep.sz
            refine WO_nil ?_
            refine inBlk_normal ?_
            refine thn_normal ?_
            refine W_region rfl ?_
            refine WO_p (PS_add_i64n rfl rfl (by omega) (by omega)) ?_
            refine WO_p (PS_move_int rfl) ?_
            refine WO_nil ?_
            refine thn_normal ?_
            exact ⟨m - 1, by omega, i + 1, _, by omega, hT14.len.trans hd12, hT14.ty hD12, put_step hd12 (by omega) hRL12 hDv, ⟨rfl, rfl, rfl, congrArg (Value.int .i64) (by omega), trivial⟩, hT14.ext (by repeat (first | assumption | exact Ext.refl _ | refine Ext.alloc ?_ _ | refine Ext.drew ?_ | refine Ext.setB ?_ (by first | omega | (simp only [size_alloc, size_setB, size_drew]; omega)) _ | exact Ext.trans (by assumption) (by assumption) | refine Ext.trans ?_ (by assumption))) (by omega), by omega, hT14.hb⟩
          · have hb17p := hb17.h; try simp only [al_ete, al_dfn, Bool.not_eq_true', Bool.not_eq_false', al_ne, Bool.not_not, al_nn] at hb17p
            refine W_exit ?_
            refine thn_exit ?_
            refine thn_exit ?_
            refine inBlk_exit ?_
            refine thn_normal ?_
            refine W_seq ?_
            refine W_region rfl ?_
            refine WO_p (PS_move_int rfl) ?_
            refine WO_p (PS_sub_i64n rfl rfl (by omega) (by omega)) ?_
            refine WO_p (PS_slA_l Hvac.runUnderlying312 Hvac.sizeOf5 rfl rfl (by omega) (by omega) (by omega)) ?_
            rw [show ((64 : Int) - nm).toNat = 64 - nm by omega, show 64 - (64 - nm) = nm by omega]
            refine WO_call Hvac.call97 (by rfl) (Ret.mono (copiedM_spec (some ⟨b13, 0 + (64 - nm) * 1, none⟩, nm, nm) ((D12.drop (64 - nm)).take nm) _ (by have h := SC.of (o := 64 - nm) (n := nm) (cp := nm) (Hb.mk (Hb.h (by repeat (first | assumption | exact Hb.newY _ _ | refine Hb.alloc ?_ | refine Hb.drew ?_ | refine Hb.ext (by assumption) ?_ | exact Hb.setSameL (by first | omega | (simp only [size_alloc, size_setB, size_drew]; omega)) | exact Hb.setSame (by assumption) | refine Hb.set (by first | omega | (simp only [size_alloc, size_setB, size_drew]; omega)) ?_ ))) : Hb _ b13 (.cells (ic .u8 D12) 312 (0, 0))) (by omega); simpa using h) (by show nm ≤ 1000000; omega)) ?_)
            rintro _ w16 ⟨hE16, s2, rfl, hN2⟩
            have hz16 := hE16.1
            have hl2 := hN2.len
            have hi8 : i = 8 := by omega
            subst hi8
            have hbvY : bvY D12 = ynpow L := by
              have h1 := nw_int hRL12
              rw [hDv, List.drop_zero] at h1
              have h2 : nw R12 = bvY D12 := by omega
              rw [← h2, hnw12, hnw6, hnw7, hnw8, hnbY, hneY, hnmY]; rfl
            have hkY : ynatr k L = (D12.drop (64 - nm)).take nm := by
              rw [ynatr5 (show k = 5 by omega) (hokY.1 hokT), ← hnmY, ← hbvY]
              conv => rhs; rw [← be_bv hD12 hd12]
              exact (be_tail (by omega)).symm
            refine WO_p (PS_assign_slice rfl) ?_
            refine WO_nil ?_
            refine thn_normal ?_
            refine W_ret ?_
            refine bodyQ_ret1 Hvac.results173 rfl (.slice _ _ _) rfl ?_
            exact ⟨(by repeat (first | assumption | exact Ext.refl _ | refine Ext.alloc ?_ _ | refine Ext.drew ?_ | refine Ext.setB ?_ (by first | omega | (simp only [size_alloc, size_setB, size_drew]; omega)) _ | exact Ext.trans (by assumption) (by assumption) | refine Ext.trans ?_ (by assumption))), s2, rfl, by rw [hkY]; exact hN2.mono (by first | omega | exact Nat.le_refl _), by rw [hkY]; exact fun z hz => hD12 z (List.mem_of_mem_drop (List.mem_of_mem_take hz)), Or.inr (by have h : ((D12.drop (64 - nm)).take nm).length ≤ nm := List.length_take_le _ _; omega)⟩

end Go.Proofs.YgvacwGreat
