import Derived.Test.YgvacwGreatHt
namespace Go.Proofs.YgvacwGreat
set_option linter.unusedSimpArgs false
set_option linter.unusedVariables false
theorem ysmall_of {n : Nat} (h : n < 18446744073709551616) : ysmall n = (n : Int) := by unfold ysmall; rw [if_pos h]
theorem ylenV_ok {I : List Int} (h : ylenOk I) (i : Nat) : ylenV I i = ylen1 I i := by unfold ylenV; rw [if_pos h]
theorem ylenV_no {I : List Int} (h : ¬ ylenOk I) (i : Nat) : ylenV I i = 0 := by unfold ylenV; rw [if_neg h]
theorem ylen_no {I : List Int} {i : Nat} (hi : i < 3) (h : 64 < ylen1 I i) : ¬ ylenOk I := by
  intro ⟨h0, h1, h2⟩
  rcases (by omega : i = 0 ∨ i = 1 ∨ i = 2) with rfl | rfl | rfl <;> omega
theorem ylenV_le (I : List Int) (i : Nat) (hi : i < 3) : ylenV I i ≤ 64 := by
  unfold ylenV
  split
  · rename_i h
    obtain ⟨h0, h1, h2⟩ := h
    rcases (by omega : i = 0 ∨ i = 1 ∨ i = 2) with rfl | rfl | rfl <;> omega
  · omega
def ynhead (I : List Int) : Nat := bvY (ycut I (96 + ylenV I 0) (min (ylenV I 1) 32))
def ynt1 (I : List Int) : Nat := if 1 < ynb (ynhead I) then ynb (ynhead I) - 1 else 0
def ynturns (I : List Int) : Nat := if 32 < ylenV I 1 then ynt1 I + 8 * (ylenV I 1 - 32) else ynt1 I
def ynwide (I : List Int) : Nat := (max (ylenV I 0) (ylenV I 2) + 7) / 8
def ynatc (k : Nat) (I : List Int) : Nat × Bool :=
  if k = 4 then (15 + 3 * ywords I.length, true)
  else if k = 5 ∧ ylenOk I then (max 200 (ynwide I * ynwide I * max (ynturns I) 1 / 3), true)
  else (0, false)
def ynmod (I : List Int) : Nat := bvY (ycut I (96 + ylenV I 0 + ylenV I 1) (ylenV I 2))
def ynpow (I : List Int) : Nat := ymodexp (bvY (ycut I 96 (ylenV I 0))) (bvY (ycut I (96 + ylenV I 0) (ylenV I 1))) (ynmod I)
def ynatr (k : Nat) (I : List Int) : List Int :=
  if k = 4 then I else if k = 5 ∧ ylenOk I then be (ylenV I 2) (ynpow I) else []
theorem ycut_by2 {L : List Int} (h : ∀ x ∈ L, 0 ≤ x ∧ x ≤ 255) (o n : Nat) : ∀ x ∈ ycut L o n, 0 ≤ x ∧ x ≤ 255 := by
  intro x hx
  unfold ycut at hx
  obtain ⟨i, _, rfl⟩ := List.mem_map.1 hx
  exact gd_by h _
theorem sz_bvc {L : List Int} (h : ∀ x ∈ L, 0 ≤ x ∧ x ≤ 255) (o n : Nat) : sz (bvY (ycut L o n)) ≤ n := by
  have := sz_le (bv_lt (ycut_by2 h o n)); rwa [ycut_len2] at this
theorem sz_ynpow {I : List Int} (h : ∀ x ∈ I, 0 ≤ x ∧ x ≤ 255) : sz (ynpow I) ≤ ylenV I 2 := by
  unfold ynpow ymodexp
  exact Nat.le_trans (sz_ymd _ _) (sz_bvc h _ _)
theorem ynatr_len (k : Nat) {I : List Int} (h : I.length ≤ 1000000) : (ynatr k I).length ≤ 1000000 := by
  unfold ynatr
  split
  · exact h
  · split
    · rw [be_len]; have := ylenV_le I 2 (by decide); omega
    · simp
theorem ynt1_le {I : List Int} (h : ∀ x ∈ I, 0 ≤ x ∧ x ≤ 255) : ynb (ynhead I) ≤ 256 := by
  have h1 := ynb_le (ynhead I)
  have h2 : sz (ynhead I) ≤ min (ylenV I 1) 32 := sz_bvc h _ _
  omega
theorem ynturns_le {I : List Int} (h : ∀ x ∈ I, 0 ≤ x ∧ x ≤ 255) : ynturns I ≤ 600 := by
  have h1 := ynt1_le h
  have h2 := ylenV_le I 1 (by decide)
  unfold ynturns ynt1
  split <;> split <;> omega
theorem ynwide_le (I : List Int) : ynwide I ≤ 8 := by
  have h0 := ylenV_le I 0 (by decide)
  have h2 := ylenV_le I 2 (by decide)
  unfold ynwide
  omega
theorem ynatc_le (k : Nat) {I : List Int} (h : ∀ x ∈ I, 0 ≤ x ∧ x ≤ 255) (hl : I.length ≤ 1000000) : (ynatc k I).1 ≤ 10000000 := by
  unfold ynatc
  split
  · show 15 + 3 * ywords I.length ≤ _; unfold ywords; omega
  · split
    · show max 200 (ynwide I * ynwide I * max (ynturns I) 1 / 3) ≤ _
      have h1 := ynturns_le h
      have h2 := ynwide_le I
      have h3 : ynwide I * ynwide I ≤ 8 * 8 := Nat.mul_le_mul h2 h2
      have h4 : ynwide I * ynwide I * max (ynturns I) 1 ≤ 8 * 8 * 600 := Nat.mul_le_mul h3 (by omega)
      omega
    · exact Nat.zero_le _
theorem sz_ynatc (k : Nat) {I : List Int} (h : ∀ x ∈ I, 0 ≤ x ∧ x ≤ 255) (hl : I.length ≤ 1000000) : sz (ynatc k I).1 ≤ 8 := sz64 (by have := ynatc_le k h hl; omega)

set_option maxRecDepth 10000 in
set_option maxHeartbeats 400000 in
theorem yLengths_spec [Om] (w : World) (hO : OmB w) (p : Option Addr) (sn sc : Nat) (I : List Int) (hI : AB w (p, sn, sc) I) (hsn : sn ≤ 1000000) : Ret Hvac.prog 193 #[.slice p sn sc] w fun u w' => Ext w w' ∧ u = .tuple #[.int .u64 (ylenV I 0 : Int), .int .u64 (ylenV I 1 : Int), .int .u64 (ylenV I 2 : Int), .bool (decide (ylenOk I))] := by
  have hIb := hI.by_
  refine Ret_of_W Hvac.func193 rfl rfl ?_
  refine W_seq ?_
  refine W_region rfl ?_
  refine WO_p (PS_assign_int rfl) ?_
  refine WO_p (PS_assign_int rfl) ?_
  refine WO_p (PS_assign_int rfl) ?_
  refine WO_p (PS_assign_bool rfl) ?_
  refine WO_nil ?_
  refine thn_normal ?_
  refine W_seq ?_
  refine W_region rfl ?_
  refine WO_allocG Hvac.zeroValue341 ?_
  intro b6 v6 hg6 hE6 hH6 hl6
  try simp only [size_alloc, size_setB, size_drew] at hg6
  have hzz6 := hE6.1
  try simp only [size_alloc, size_setB, size_drew] at hzz6
  replace hH6 : Hb v6 b6 (.cells (ic .u64 (List.replicate 3 0)) 341 (0, 0)) := hH6
  refine WO_nil ?_
  refine thn_normal ?_
  refine W_seq ?_
  refine W_seq ?_
  refine W_region rfl ?_
  refine WO_p (PS_move_int rfl) ?_
  refine WO_nil ?_
  refine thn_normal ?_
  refine W_block ?_
  refine W_loopN (fun k ρ w' => ∃ (i : Nat) (L : List Int), i + k = 3 ∧ L.length = 3 ∧ (∀ q, q < i → L.getD q 0 = (ylen1 I q : Int) ∧ ylen1 I q ≤ 64) ∧ Fr [(0, .slice p sn sc), (6, .pointer (some ⟨b6, 0, none⟩)), (9, .int .i64 i)] ρ ∧ Ext w w' ∧ Hb w' b6 (.cells (ic .u64 L) 341 (0, 0))) 3 ?_ ?_
  · exact ⟨0, List.replicate 3 0, by omega, rfl, fun q h => absurd h (Nat.not_lt_zero q), ⟨rfl, rfl, rfl, trivial⟩, (by repeat (first | assumption | exact Ext.refl _ | refine Ext.alloc ?_ _ | refine Ext.drew ?_ | refine Ext.setB ?_ (by first | omega | (simp only [size_alloc, size_setB, size_drew]; omega)) _ | refine Ext.trans ?_ (by assumption))), Hb.mk (Hb.h (by repeat (first | assumption | exact Hb.newY _ _ | refine Hb.alloc ?_ | refine Hb.drew ?_ | refine Hb.ext (by assumption) ?_ | exact Hb.setSameL (by first | omega | (simp only [size_alloc, size_setB, size_drew]; omega)) | exact Hb.setSame (by assumption) | refine Hb.set (by first | omega | (simp only [size_alloc, size_setB, size_drew]; omega)) ?_ )))⟩
  intro k2 ρ2 w2 hI2
  obtain ⟨i, L, hik, hL, hdone, hFr2, hE2, hb6k⟩ := hI2
  refine W_env _ hFr2 ?_
  have hz2 := hE2.1
  have hb6k_l := hb6k.lt
  refine W_seq ?_
  refine W_region rfl ?_
  refine WO_p (PS_lss rfl rfl) ?_
  refine WO_nil ?_
  refine thn_normal ?_
  refine W_seq ?_
  refine W_if rfl (fun hb2 => ?_) (fun hb2 => ?_)
  · have hb2p := hb2.h; try simp only [al_ete, al_dfn, Bool.not_eq_true', Bool.not_eq_false', al_ne, Bool.not_not, al_nn] at hb2p
    refine W_skip ?_
    refine thn_normal ?_
    refine W_seq ?_
    refine W_block ?_
    refine W_seq ?_
    refine W_region rfl ?_
    refine WO_p (PS_move_int rfl) ?_
    refine WO_p (PS_assign_int rfl) ?_
    refine WO_nil ?_
    refine thn_normal ?_
    refine W_seq ?_
    refine W_region rfl ?_
    refine WO_p (PS_move_slice rfl) ?_
    refine WO_p (PS_move_int rfl) ?_
    refine WO_p (PS_mul_i64n rfl rfl (by omega) (by omega)) ?_
    refine WO_p (PS_conv_u64n Hvac.runUnderlying3 Hvac.runUnderlying26 rfl (by omega) (by omega)) ?_
    rw [show 32 * (i : Int) = ((32 * i : Nat) : Int) by omega]
    refine WO_call Hvac.call195 (by rfl) (Ret.mono (yPart_spec _ (OmB.ext hO (by repeat (first | assumption | exact Ext.refl _ | refine Ext.alloc ?_ _ | refine Ext.drew ?_ | refine Ext.setB ?_ (by first | omega | (simp only [size_alloc, size_setB, size_drew]; omega)) _ | exact Ext.trans (by assumption) (by assumption) | refine Ext.trans ?_ (by assumption)))) _ _ _ _ (by first | assumption | exact AB.ext (by assumption) (by repeat (first | assumption | exact Ext.refl _ | refine Ext.alloc ?_ _ | refine Ext.drew ?_ | refine Ext.setB ?_ (by first | omega | (simp only [size_alloc, size_setB, size_drew]; omega)) _ | exact Ext.trans (by assumption) (by assumption) | refine Ext.trans ?_ (by assumption))) | exact PB.ab (by assumption) | exact PB.ab (PB.ext (by assumption) (by repeat (first | assumption | exact Ext.refl _ | refine Ext.alloc ?_ _ | refine Ext.drew ?_ | refine Ext.setB ?_ (by first | omega | (simp only [size_alloc, size_setB, size_drew]; omega)) _ | exact Ext.trans (by assumption) (by assumption) | refine Ext.trans ?_ (by assumption))))) hsn (32 * i) (32) (by omega) (by omega)) ?_)
    rintro _ w195_2 ⟨hE195_2, s195_2, rfl, hN195_2⟩
    have hz195_2 := hE195_2.1
    try simp only [size_alloc, size_setB, size_drew] at hz195_2
    have hl195_2 := PB.len hN195_2
    rw [ycut_len2] at hl195_2
    refine WO_call Hvac.call29 (by rfl) (Ret.mono (nBE_spec (OmB.ext hO (by repeat (first | assumption | exact Ext.refl _ | refine Ext.alloc ?_ _ | refine Ext.drew ?_ | refine Ext.setB ?_ (by first | omega | (simp only [size_alloc, size_setB, size_drew]; omega)) _ | exact Ext.trans (by assumption) (by assumption) | refine Ext.trans ?_ (by assumption)))) (by first | assumption | exact AB.ext (by assumption) (by repeat (first | assumption | exact Ext.refl _ | refine Ext.alloc ?_ _ | refine Ext.drew ?_ | refine Ext.setB ?_ (by first | omega | (simp only [size_alloc, size_setB, size_drew]; omega)) _ | exact Ext.trans (by assumption) (by assumption) | refine Ext.trans ?_ (by assumption))) | exact PB.ab (by assumption) | exact PB.ab (PB.ext (by assumption) (by repeat (first | assumption | exact Ext.refl _ | refine Ext.alloc ?_ _ | refine Ext.drew ?_ | refine Ext.setB ?_ (by first | omega | (simp only [size_alloc, size_setB, size_drew]; omega)) _ | exact Ext.trans (by assumption) (by assumption) | refine Ext.trans ?_ (by assumption))))) (by omega)) ?_)
    rintro _ w29_3 ⟨hE29_3, s8, rfl, hN8⟩
    have hz29_3 := hE29_3.1
    try simp only [size_alloc, size_setB, size_drew] at hz29_3
    replace hN8 : NN w29_3 s8 (ylen1 I i) := hN8
    have hs8 : sz (ylen1 I i) ≤ 32 := sz_bvc hIb _ _
    refine WO_p (PS_assign_slice rfl) ?_
    refine WO_nil ?_
    refine thn_normal ?_
    refine W_seq ?_
    refine W_seq ?_
    refine W_region rfl ?_
    refine WO_p (PS_move_slice rfl) ?_
    refine WO_call Hvac.call19 (by rfl) (Ret.mono (nNum_spec (OmB.ext hO (by repeat (first | assumption | exact Ext.refl _ | refine Ext.alloc ?_ _ | refine Ext.drew ?_ | refine Ext.setB ?_ (by first | omega | (simp only [size_alloc, size_setB, size_drew]; omega)) _ | exact Ext.trans (by assumption) (by assumption) | refine Ext.trans ?_ (by assumption)))) ⟨by omega, by omega⟩) ?_)
    rintro _ w19_4 ⟨hE19_4, s19_4, rfl, hN19_4, hs19_4⟩
    have hz19_4 := hE19_4.1
    try simp only [size_alloc, size_setB, size_drew] at hz19_4
    try simp only [Int.toNat_natCast, toNat_lit] at hN19_4 hs19_4
    refine WO_call Hvac.call76 (by rfl) (Ret.mono (nCmp_spec (by first | assumption | exact NN.ext (by assumption) (by repeat (first | assumption | exact Ext.refl _ | refine Ext.alloc ?_ _ | refine Ext.drew ?_ | refine Ext.setB ?_ (by first | omega | (simp only [size_alloc, size_setB, size_drew]; omega)) _ | exact Ext.trans (by assumption) (by assumption) | refine Ext.trans ?_ (by assumption)))) (by first | assumption | exact NN.ext (by assumption) (by repeat (first | assumption | exact Ext.refl _ | refine Ext.alloc ?_ _ | refine Ext.drew ?_ | refine Ext.setB ?_ (by first | omega | (simp only [size_alloc, size_setB, size_drew]; omega)) _ | exact Ext.trans (by assumption) (by assumption) | refine Ext.trans ?_ (by assumption)))) (by first | omega | (rw [sz_zero]; omega)) (by first | omega | (rw [sz_zero]; omega))) ?_)
    rintro _ w76_5 ⟨hE76_5, rfl⟩
    have hz76_5 := hE76_5.1
    try simp only [size_alloc, size_setB, size_drew] at hz76_5
    refine WO_p (PS_gtr rfl rfl) ?_
    refine WO_nil ?_
    refine thn_normal ?_
    refine W_if rfl (fun hb8 => ?_) (fun hb8 => ?_)
    · have hb8p := hb8.h; try simp only [al_ete, al_dfn, Bool.not_eq_true', Bool.not_eq_false', al_ne, Bool.not_not, al_nn] at hb8p
      have hno := ylen_no (I := I) (i := i) (by omega) (by rw [cmpI_gt2] at hb8p; exact hb8p)
      refine W_seq ?_
      refine W_region rfl ?_
      refine WO_p (PS_assign_int rfl) ?_
      refine WO_p (PS_assign_int rfl) ?_
      refine WO_p (PS_assign_int rfl) ?_
      refine WO_p (PS_assign_bool rfl) ?_
      refine WO_nil ?_
      refine thn_normal ?_
      refine W_ret ?_
      refine thn_ret ?_
      refine inBlk_ret ?_
      refine thn_ret ?_
      refine thn_ret ?_
      refine inBlk_ret ?_
      refine thn_ret ?_
      refine bodyQ_ret4 Hvac.results193 rfl rfl rfl rfl (.int _ _) (.int _ _) (.int _ _) (.bool _) rfl rfl rfl rfl ?_
      refine ⟨(by repeat (first | assumption | exact Ext.refl _ | refine Ext.alloc ?_ _ | refine Ext.drew ?_ | refine Ext.setB ?_ (by first | omega | (simp only [size_alloc, size_setB, size_drew]; omega)) _ | exact Ext.trans (by assumption) (by assumption) | refine Ext.trans ?_ (by assumption))), ?_⟩; rw [ylenV_no hno, ylenV_no hno, ylenV_no hno, al_ef hno]; rfl
    · have hb8p := hb8.h; try simp only [al_ete, al_dfn, Bool.not_eq_true', Bool.not_eq_false', al_ne, Bool.not_not, al_nn] at hb8p
      have h64 : ylen1 I i ≤ 64 := by rw [cmpI_gt2] at hb8p; omega
      refine W_skip ?_
      refine thn_normal ?_
      refine W_region rfl ?_
      refine WO_p (PS_move_int rfl) ?_
      refine WO_p (PS_move_slice rfl) ?_
      refine WO_call Hvac.call37 (by rfl) (Ret.mono (small_spec2 _ (OmB.ext hO (by repeat (first | assumption | exact Ext.refl _ | refine Ext.alloc ?_ _ | refine Ext.drew ?_ | refine Ext.setB ?_ (by first | omega | (simp only [size_alloc, size_setB, size_drew]; omega)) _ | exact Ext.trans (by assumption) (by assumption) | refine Ext.trans ?_ (by assumption)))) _ _ _ _ (by first | assumption | exact NN.ext (by assumption) (by repeat (first | assumption | exact Ext.refl _ | refine Ext.alloc ?_ _ | refine Ext.drew ?_ | refine Ext.setB ?_ (by first | omega | (simp only [size_alloc, size_setB, size_drew]; omega)) _ | exact Ext.trans (by assumption) (by assumption) | refine Ext.trans ?_ (by assumption)))) (by first | omega | (rw [sz_zero]; omega))) ?_)
      rintro _ w37_8 ⟨hE37_8, rfl⟩
      have hz37_8 := hE37_8.1
      try simp only [size_alloc, size_setB, size_drew] at hz37_8
      rw [ysmall_of (by omega)]
      refine WO_p (PS_indexA Hvac.runUnderlying341 Hvac.sizeOf26 rfl rfl (by omega) (by omega)) ?_
      refine WO_store1 Hvac.sizeOf26 rfl (v := .int _ _) rfl (Hb.h (by repeat (first | assumption | exact Hb.newY _ _ | refine Hb.alloc ?_ | refine Hb.drew ?_ | refine Hb.ext (by assumption) ?_ | exact Hb.setSameL (by first | omega | (simp only [size_alloc, size_setB, size_drew]; omega)) | exact Hb.setSame (by assumption) | refine Hb.set (by first | omega | (simp only [size_alloc, size_setB, size_drew]; omega)) ?_ ))) rfl (by rw [size_ic, hL]; omega) rfl ?_
      rw [show ((i : Int)).toNat = i from Int.toNat_natCast i, ic_set]
      refine WO_nil ?_
      refine inBlk_normal ?_
      refine thn_normal ?_
      refine W_region rfl ?_
      refine WO_p (PS_add_i64n rfl rfl (by omega) (by omega)) ?_
      refine WO_p (PS_move_int rfl) ?_
      refine WO_nil ?_
      refine thn_normal ?_
      exact ⟨k2 - 1, by omega, i + 1, L.set i (ylen1 I i : Int), by omega, by rw [List.length_set]; exact hL, fun q hq => by
        rw [gd_set _ _ _ _ (by omega)]
        split
        · rename_i e; subst e; exact ⟨rfl, h64⟩
        · exact hdone q (by omega), ⟨rfl, rfl, congrArg (Value.int .i64) (by omega), trivial⟩, (by repeat (first | assumption | exact Ext.refl _ | refine Ext.alloc ?_ _ | refine Ext.drew ?_ | refine Ext.setB ?_ (by first | omega | (simp only [size_alloc, size_setB, size_drew]; omega)) _ | refine Ext.trans ?_ (by assumption))), Hb.mk (Hb.h (by repeat (first | assumption | exact Hb.newY _ _ | refine Hb.alloc ?_ | refine Hb.drew ?_ | refine Hb.ext (by assumption) ?_ | exact Hb.setSameL (by first | omega | (simp only [size_alloc, size_setB, size_drew]; omega)) | exact Hb.setSame (by assumption) | refine Hb.set (by first | omega | (simp only [size_alloc, size_setB, size_drew]; omega)) ?_ )))⟩
  · have hb2p := hb2.h; try simp only [al_ete, al_dfn, Bool.not_eq_true', Bool.not_eq_false', al_ne, Bool.not_not, al_nn] at hb2p
    have hi3 : i = 3 := by omega
    subst hi3
    have hok : ylenOk I := ⟨(hdone 0 (by omega)).2, (hdone 1 (by omega)).2, (hdone 2 (by omega)).2⟩
    have hce0 : Ce (ic .u64 L) (0 + (0:Int).toNat * 1) (.int .u64 (ylen1 I 0 : Int)) := by rw [← (hdone 0 (by omega)).1]; exact ce_ic (i := 0) (by omega)
    have hce1 : Ce (ic .u64 L) (0 + (1:Int).toNat * 1) (.int .u64 (ylen1 I 1 : Int)) := by rw [← (hdone 1 (by omega)).1]; exact ce_ic (i := 1) (by omega)
    have hce2 : Ce (ic .u64 L) (0 + (2:Int).toNat * 1) (.int .u64 (ylen1 I 2 : Int)) := by rw [← (hdone 2 (by omega)).1]; exact ce_ic (i := 2) (by omega)
    have hszL : (ic .u64 L).size = 3 := by rw [size_ic, hL]
    refine W_exit ?_
    refine thn_exit ?_
    refine thn_exit ?_
    refine inBlk_exit ?_
    refine thn_normal ?_
    refine W_seq ?_
    refine W_drawE [false, false, false, false, false, false, false, false, false, false] hmix (by kernel_rfl) rfl ?_
    refine WH_p (PS_indexA Hvac.runUnderlying341 Hvac.sizeOf26 rfl rfl (by omega) (by omega)) rfl ?_
    refine WH_load (.int _ _) Hvac.isAgg26 rfl (Hb.h (by repeat (first | assumption | exact Hb.newY _ _ | refine Hb.alloc ?_ | refine Hb.drew ?_ | refine Hb.ext (by assumption) ?_ | exact Hb.setSameL (by first | omega | (simp only [size_alloc, size_setB, size_drew]; omega)) | exact Hb.setSame (by assumption) | refine Hb.set (by first | omega | (simp only [size_alloc, size_setB, size_drew]; omega)) ?_ ))) (Ce.h (by first | assumption | exact ⟨rfl⟩)) ?_
    refine WH_p (PS_indexA Hvac.runUnderlying341 Hvac.sizeOf26 rfl rfl (by omega) (by omega)) rfl ?_
    refine WH_load (.int _ _) Hvac.isAgg26 rfl (Hb.h (by repeat (first | assumption | exact Hb.newY _ _ | refine Hb.alloc ?_ | refine Hb.drew ?_ | refine Hb.ext (by assumption) ?_ | exact Hb.setSameL (by first | omega | (simp only [size_alloc, size_setB, size_drew]; omega)) | exact Hb.setSame (by assumption) | refine Hb.set (by first | omega | (simp only [size_alloc, size_setB, size_drew]; omega)) ?_ ))) (Ce.h (by first | assumption | exact ⟨rfl⟩)) ?_
    refine WH_p (PS_indexA Hvac.runUnderlying341 Hvac.sizeOf26 rfl rfl (by omega) (by omega)) rfl ?_
    refine WH_load (.int _ _) Hvac.isAgg26 rfl (Hb.h (by repeat (first | assumption | exact Hb.newY _ _ | refine Hb.alloc ?_ | refine Hb.drew ?_ | refine Hb.ext (by assumption) ?_ | exact Hb.setSameL (by first | omega | (simp only [size_alloc, size_setB, size_drew]; omega)) | exact Hb.setSame (by assumption) | refine Hb.set (by first | omega | (simp only [size_alloc, size_setB, size_drew]; omega)) ?_ ))) (Ce.h (by first | assumption | exact ⟨rfl⟩)) ?_
    refine WH_p (PS_assign_int rfl) rfl ?_
    refine WH_p (PS_assign_int rfl) rfl ?_
    refine WH_p (PS_assign_int rfl) rfl ?_
    refine WH_p (PS_assign_bool rfl) rfl ?_
    refine WH_nil ?_
    refine thn_normal ?_
    refine W_ret ?_
    refine bodyQ_ret4 Hvac.results193 rfl rfl rfl rfl (.int _ _) (.int _ _) (.int _ _) (.bool _) rfl rfl rfl rfl ?_
    refine ⟨(by repeat (first | assumption | exact Ext.refl _ | refine Ext.alloc ?_ _ | refine Ext.drew ?_ | refine Ext.setB ?_ (by first | omega | (simp only [size_alloc, size_setB, size_drew]; omega)) _ | exact Ext.trans (by assumption) (by assumption) | refine Ext.trans ?_ (by assumption))), ?_⟩; rw [ylenV_ok hok, ylenV_ok hok, ylenV_ok hok, al_et hok]

set_option maxRecDepth 10000 in
set_option maxHeartbeats 400000 in
theorem yNatCost_spec [Om] (w : World) (hO : OmB w) (p : Option Addr) (sn sc : Nat) (I : List Int) (hI : AB w (p, sn, sc) I) (hsn : sn ≤ 1000000) (k : Nat) (hk : k ≤ 255) : Ret Hvac.prog 108 #[.int .u8 (k : Int), .slice p sn sc] w fun u w' => Ext w w' ∧ ∃ s' : SV, u = .tuple #[.slice s'.1 s'.2.1 s'.2.2, .bool (ynatc k I).2] ∧ NN w' s' (ynatc k I).1 := by
  have hIb := hI.by_
  have hIl := hI.len
  dsimp only at hIl
  have h0 := ylenV_le I 0 (by decide)
  have h1 := ylenV_le I 1 (by decide)
  have h2 := ylenV_le I 2 (by decide)
  have hwd := ynwide_le I
  have hswd : sz (ynwide I) ≤ 8 := sz64 (by omega)
  have htn := ynturns_le hIb
  have hstn : sz (ynturns I) ≤ 8 := sz64 (by omega)
  have hnb := ynt1_le hIb
  have hst1 : sz (ynt1 I) ≤ 8 := sz64 (by unfold ynt1; split <;> omega)
  refine Ret_of_W Hvac.func108 rfl rfl ?_
  refine W_seq ?_
  refine W_region rfl ?_
  refine WO_p (PS_assign_slice rfl) ?_
  refine WO_p (PS_assign_bool rfl) ?_
  refine WO_nil ?_
  refine thn_normal ?_
  refine W_seq ?_
  refine W_seq ?_
  refine W_region rfl ?_
  refine WO_p (PS_move_int rfl) ?_
  refine WO_nil ?_
  refine thn_normal ?_
  refine W_block ?_
  refine W_seq ?_
  refine W_region rfl ?_
  refine WO_p (PS_eql rfl rfl) ?_
  refine WO_p (PS_assign_bool rfl) ?_
  refine WO_nil ?_
  refine thn_normal ?_
  refine W_if rfl (fun hb2 => ?_) (fun hb2 => ?_)
  · have hb2p := hb2.h; try simp only [al_ete, al_dfn, Bool.not_eq_true', Bool.not_eq_false', al_ne, Bool.not_not, al_nn] at hb2p
    have hk4 : k = 4 := by omega
    refine W_seq ?_
    refine W_region rfl ?_
    refine WO_call Hvac.call19 (by rfl) (Ret.mono (nNum_spec (OmB.ext hO (by repeat (first | assumption | exact Ext.refl _ | refine Ext.alloc ?_ _ | refine Ext.drew ?_ | refine Ext.setB ?_ (by first | omega | (simp only [size_alloc, size_setB, size_drew]; omega)) _ | exact Ext.trans (by assumption) (by assumption) | refine Ext.trans ?_ (by assumption)))) ⟨by omega, by omega⟩) ?_)
    rintro _ w19_2 ⟨hE19_2, s19_2, rfl, hN19_2, hs19_2⟩
    have hz19_2 := hE19_2.1
    try simp only [size_alloc, size_setB, size_drew] at hz19_2
    try simp only [Int.toNat_natCast, toNat_lit] at hN19_2 hs19_2
    refine WO_call Hvac.call19 (by rfl) (Ret.mono (nNum_spec (OmB.ext hO (by repeat (first | assumption | exact Ext.refl _ | refine Ext.alloc ?_ _ | refine Ext.drew ?_ | refine Ext.setB ?_ (by first | omega | (simp only [size_alloc, size_setB, size_drew]; omega)) _ | exact Ext.trans (by assumption) (by assumption) | refine Ext.trans ?_ (by assumption)))) ⟨by omega, by omega⟩) ?_)
    rintro _ w19_3 ⟨hE19_3, s19_3, rfl, hN19_3, hs19_3⟩
    have hz19_3 := hE19_3.1
    try simp only [size_alloc, size_setB, size_drew] at hz19_3
    try simp only [Int.toNat_natCast, toNat_lit] at hN19_3 hs19_3
    refine WO_p (PS_move_slice rfl) ?_
    refine WO_p (PS_lenS Hvac.runUnderlying32 rfl) ?_
    refine WO_p (PS_conv_u64n Hvac.runUnderlying3 Hvac.runUnderlying26 rfl (by omega) (by omega)) ?_
    refine WO_call Hvac.call19 (by rfl) (Ret.mono (nNum_spec (OmB.ext hO (by repeat (first | assumption | exact Ext.refl _ | refine Ext.alloc ?_ _ | refine Ext.drew ?_ | refine Ext.setB ?_ (by first | omega | (simp only [size_alloc, size_setB, size_drew]; omega)) _ | exact Ext.trans (by assumption) (by assumption) | refine Ext.trans ?_ (by assumption)))) ⟨by omega, by omega⟩) ?_)
    rintro _ w19_4 ⟨hE19_4, s19_4, rfl, hN19_4, hs19_4⟩
    have hz19_4 := hE19_4.1
    try simp only [size_alloc, size_setB, size_drew] at hz19_4
    try simp only [Int.toNat_natCast, toNat_lit] at hN19_4 hs19_4
    refine WO_call Hvac.call83 (by rfl) (Ret.mono (words_spec2 _ (OmB.ext hO (by repeat (first | assumption | exact Ext.refl _ | refine Ext.alloc ?_ _ | refine Ext.drew ?_ | refine Ext.setB ?_ (by first | omega | (simp only [size_alloc, size_setB, size_drew]; omega)) _ | exact Ext.trans (by assumption) (by assumption) | refine Ext.trans ?_ (by assumption)))) _ _ _ _ (by first | assumption | exact NN.ext (by assumption) (by repeat (first | assumption | exact Ext.refl _ | refine Ext.alloc ?_ _ | refine Ext.drew ?_ | refine Ext.setB ?_ (by first | omega | (simp only [size_alloc, size_setB, size_drew]; omega)) _ | exact Ext.trans (by assumption) (by assumption) | refine Ext.trans ?_ (by assumption)))) (by first | omega | (rw [sz_zero]; omega))) ?_)
    rintro _ w83_5 ⟨hE83_5, s83_5, rfl, hN83_5⟩
    have hz83_5 := hE83_5.1
    try simp only [size_alloc, size_setB, size_drew] at hz83_5
    have hs83_5 : sz (ywords sn) ≤ 8 := sz64 (by unfold ywords; omega)
    refine WO_call Hvac.call26 (by rfl) (Ret.mono (nMul_spec (OmB.ext hO (by repeat (first | assumption | exact Ext.refl _ | refine Ext.alloc ?_ _ | refine Ext.drew ?_ | refine Ext.setB ?_ (by first | omega | (simp only [size_alloc, size_setB, size_drew]; omega)) _ | exact Ext.trans (by assumption) (by assumption) | refine Ext.trans ?_ (by assumption)))) (by first | assumption | exact NN.ext (by assumption) (by repeat (first | assumption | exact Ext.refl _ | refine Ext.alloc ?_ _ | refine Ext.drew ?_ | refine Ext.setB ?_ (by first | omega | (simp only [size_alloc, size_setB, size_drew]; omega)) _ | exact Ext.trans (by assumption) (by assumption) | refine Ext.trans ?_ (by assumption)))) (by first | assumption | exact NN.ext (by assumption) (by repeat (first | assumption | exact Ext.refl _ | refine Ext.alloc ?_ _ | refine Ext.drew ?_ | refine Ext.setB ?_ (by first | omega | (simp only [size_alloc, size_setB, size_drew]; omega)) _ | exact Ext.trans (by assumption) (by assumption) | refine Ext.trans ?_ (by assumption)))) (by first | omega | (rw [sz_zero]; omega)) (by first | omega | (rw [sz_zero]; omega))) ?_)
    rintro _ w26_6 ⟨hE26_6, s26_6, rfl, hN26_6⟩
    have hz26_6 := hE26_6.1
    try simp only [size_alloc, size_setB, size_drew] at hz26_6
    have hs26_6 := hN26_6.z_mul
    refine WO_call Hvac.call24 (by rfl) (Ret.mono (nAdd_spec (OmB.ext hO (by repeat (first | assumption | exact Ext.refl _ | refine Ext.alloc ?_ _ | refine Ext.drew ?_ | refine Ext.setB ?_ (by first | omega | (simp only [size_alloc, size_setB, size_drew]; omega)) _ | exact Ext.trans (by assumption) (by assumption) | refine Ext.trans ?_ (by assumption)))) (by first | assumption | exact NN.ext (by assumption) (by repeat (first | assumption | exact Ext.refl _ | refine Ext.alloc ?_ _ | refine Ext.drew ?_ | refine Ext.setB ?_ (by first | omega | (simp only [size_alloc, size_setB, size_drew]; omega)) _ | exact Ext.trans (by assumption) (by assumption) | refine Ext.trans ?_ (by assumption)))) (by first | assumption | exact NN.ext (by assumption) (by repeat (first | assumption | exact Ext.refl _ | refine Ext.alloc ?_ _ | refine Ext.drew ?_ | refine Ext.setB ?_ (by first | omega | (simp only [size_alloc, size_setB, size_drew]; omega)) _ | exact Ext.trans (by assumption) (by assumption) | refine Ext.trans ?_ (by assumption)))) (by first | omega | (rw [sz_zero]; omega)) (by first | omega | (rw [sz_zero]; omega))) ?_)
    rintro _ w24_7 ⟨hE24_7, s24_7, rfl, hN24_7⟩
    have hz24_7 := hE24_7.1
    try simp only [size_alloc, size_setB, size_drew] at hz24_7
    have hs24_7 := hN24_7.z_add
    refine WO_p (PS_assign_slice rfl) ?_
    refine WO_p (PS_assign_bool rfl) ?_
    refine WO_nil ?_
    refine thn_normal ?_
    refine W_ret ?_
    refine inBlk_ret ?_
    refine thn_ret ?_
    refine bodyQ_ret2 Hvac.results108 rfl rfl (.slice _ _ _) (.bool _) rfl rfl ?_
    have e9 : ynatc k I = (15 + 3 * ywords I.length, true) := (by unfold ynatc; rw [if_pos hk4]); rw [e9, hIl]; exact ⟨(by repeat (first | assumption | exact Ext.refl _ | refine Ext.alloc ?_ _ | refine Ext.drew ?_ | refine Ext.setB ?_ (by first | omega | (simp only [size_alloc, size_setB, size_drew]; omega)) _ | refine Ext.trans ?_ (by assumption))), (_, _, _), rfl, (by first | assumption | exact NN.ext (by assumption) (by repeat (first | assumption | exact Ext.refl _ | refine Ext.alloc ?_ _ | refine Ext.drew ?_ | refine Ext.setB ?_ (by first | omega | (simp only [size_alloc, size_setB, size_drew]; omega)) _ | refine Ext.trans ?_ (by assumption))))⟩
  · have hb2p := hb2.h; try simp only [al_ete, al_dfn, Bool.not_eq_true', Bool.not_eq_false', al_ne, Bool.not_not, al_nn] at hb2p
    have hk4 : ¬ k = 4 := by omega
    refine W_seq ?_
    refine W_region rfl ?_
    refine WO_p (PS_eql rfl rfl) ?_
    refine WO_p (PS_assign_bool rfl) ?_
    refine WO_nil ?_
    refine thn_normal ?_
    refine W_if rfl (fun hb10 => ?_) (fun hb10 => ?_)
    · have hb10p := hb10.h; try simp only [al_ete, al_dfn, Bool.not_eq_true', Bool.not_eq_false', al_ne, Bool.not_not, al_nn] at hb10p
      have hk5 : k = 5 := by omega
      refine W_seq ?_
      refine W_region rfl ?_
      refine WO_p (PS_move_slice rfl) ?_
      refine WO_call Hvac.call193 (by rfl) (Ret.mono (yLengths_spec _ (OmB.ext hO (by repeat (first | assumption | exact Ext.refl _ | refine Ext.alloc ?_ _ | refine Ext.drew ?_ | refine Ext.setB ?_ (by first | omega | (simp only [size_alloc, size_setB, size_drew]; omega)) _ | exact Ext.trans (by assumption) (by assumption) | refine Ext.trans ?_ (by assumption)))) _ _ _ _ (by first | assumption | exact AB.ext (by assumption) (by repeat (first | assumption | exact Ext.refl _ | refine Ext.alloc ?_ _ | refine Ext.drew ?_ | refine Ext.setB ?_ (by first | omega | (simp only [size_alloc, size_setB, size_drew]; omega)) _ | exact Ext.trans (by assumption) (by assumption) | refine Ext.trans ?_ (by assumption))) | exact PB.ab (by assumption) | exact PB.ab (PB.ext (by assumption) (by repeat (first | assumption | exact Ext.refl _ | refine Ext.alloc ?_ _ | refine Ext.drew ?_ | refine Ext.setB ?_ (by first | omega | (simp only [size_alloc, size_setB, size_drew]; omega)) _ | exact Ext.trans (by assumption) (by assumption) | refine Ext.trans ?_ (by assumption))))) hsn) ?_)
      rintro _ w193_10 ⟨hE193_10, rfl⟩
      have hz193_10 := hE193_10.1
      try simp only [size_alloc, size_setB, size_drew] at hz193_10
      refine WO_p (PS_move_tuple rfl) ?_
      refine WO_p (PS_extract_int rfl rfl) ?_
      refine WO_p (PS_extract_int rfl rfl) ?_
      refine WO_p (PS_extract_int rfl rfl) ?_
      refine WO_p (PS_extract_bool rfl rfl) ?_
      refine WO_p (PS_assign_int rfl) ?_
      refine WO_p (PS_assign_int rfl) ?_
      refine WO_p (PS_assign_int rfl) ?_
      refine WO_p (PS_assign_bool rfl) ?_
      refine WO_nil ?_
      refine thn_normal ?_
      refine W_seq ?_
      refine W_seq ?_
      refine W_region rfl ?_
      refine WO_p (PS_move_bool rfl) ?_
      refine WO_p (PS_not rfl) ?_
      refine WO_nil ?_
      refine thn_normal ?_
      refine W_if rfl (fun hb14 => ?_) (fun hb14 => ?_)
      · have hb14p := hb14.h; try simp only [al_ete, al_dfn, Bool.not_eq_true', Bool.not_eq_false', al_ne, Bool.not_not, al_nn] at hb14p
        have hno : ¬ ylenOk I := by simpa using hb14p
        have hk5 : ¬ (k = 5 ∧ ylenOk I) := fun h9 => hno h9.2
        refine W_seq ?_
        refine W_region rfl ?_
        refine WO_p (PS_assign_slice rfl) ?_
        refine WO_p (PS_assign_bool rfl) ?_
        refine WO_nil ?_
        refine thn_normal ?_
        refine W_ret ?_
        refine thn_ret ?_
        refine inBlk_ret ?_
        refine thn_ret ?_
        refine bodyQ_ret2 Hvac.results108 rfl rfl (.slice _ _ _) (.bool _) rfl rfl ?_
        have e9 : ynatc k I = (0, false) := (by unfold ynatc; rw [if_neg hk4, if_neg hk5]); rw [e9]; exact ⟨(by repeat (first | assumption | exact Ext.refl _ | refine Ext.alloc ?_ _ | refine Ext.drew ?_ | refine Ext.setB ?_ (by first | omega | (simp only [size_alloc, size_setB, size_drew]; omega)) _ | refine Ext.trans ?_ (by assumption))), (none, 0, 0), rfl, NN.nil _⟩
      · have hb14p := hb14.h; try simp only [al_ete, al_dfn, Bool.not_eq_true', Bool.not_eq_false', al_ne, Bool.not_not, al_nn] at hb14p
        have hok : ylenOk I := by simpa using hb14p
        refine W_skip ?_
        refine thn_normal ?_
        refine W_seq ?_
        refine W_region rfl ?_
        refine WO_p (PS_move_int rfl) ?_
        refine WO_call Hvac.call19 (by rfl) (Ret.mono (nNum_spec (OmB.ext hO (by repeat (first | assumption | exact Ext.refl _ | refine Ext.alloc ?_ _ | refine Ext.drew ?_ | refine Ext.setB ?_ (by first | omega | (simp only [size_alloc, size_setB, size_drew]; omega)) _ | exact Ext.trans (by assumption) (by assumption) | refine Ext.trans ?_ (by assumption)))) ⟨by omega, by omega⟩) ?_)
        rintro _ w19_14 ⟨hE19_14, s19_14, rfl, hN19_14, hs19_14⟩
        have hz19_14 := hE19_14.1
        try simp only [size_alloc, size_setB, size_drew] at hz19_14
        try simp only [Int.toNat_natCast, toNat_lit] at hN19_14 hs19_14
        refine WO_p (PS_move_int rfl) ?_
        refine WO_call Hvac.call19 (by rfl) (Ret.mono (nNum_spec (OmB.ext hO (by repeat (first | assumption | exact Ext.refl _ | refine Ext.alloc ?_ _ | refine Ext.drew ?_ | refine Ext.setB ?_ (by first | omega | (simp only [size_alloc, size_setB, size_drew]; omega)) _ | exact Ext.trans (by assumption) (by assumption) | refine Ext.trans ?_ (by assumption)))) ⟨by omega, by omega⟩) ?_)
        rintro _ w19_15 ⟨hE19_15, s19_15, rfl, hN19_15, hs19_15⟩
        have hz19_15 := hE19_15.1
        try simp only [size_alloc, size_setB, size_drew] at hz19_15
        try simp only [Int.toNat_natCast, toNat_lit] at hN19_15 hs19_15
        refine WO_call Hvac.call119 (by rfl) (Ret.mono (maxNat_spec _ (OmB.ext hO (by repeat (first | assumption | exact Ext.refl _ | refine Ext.alloc ?_ _ | refine Ext.drew ?_ | refine Ext.setB ?_ (by first | omega | (simp only [size_alloc, size_setB, size_drew]; omega)) _ | exact Ext.trans (by assumption) (by assumption) | refine Ext.trans ?_ (by assumption)))) _ _ _ _ (by first | assumption | exact NN.ext (by assumption) (by repeat (first | assumption | exact Ext.refl _ | refine Ext.alloc ?_ _ | refine Ext.drew ?_ | refine Ext.setB ?_ (by first | omega | (simp only [size_alloc, size_setB, size_drew]; omega)) _ | exact Ext.trans (by assumption) (by assumption) | refine Ext.trans ?_ (by assumption)))) (by first | omega | (rw [sz_zero]; omega)) _ _ _ _ (by first | assumption | exact NN.ext (by assumption) (by repeat (first | assumption | exact Ext.refl _ | refine Ext.alloc ?_ _ | refine Ext.drew ?_ | refine Ext.setB ?_ (by first | omega | (simp only [size_alloc, size_setB, size_drew]; omega)) _ | exact Ext.trans (by assumption) (by assumption) | refine Ext.trans ?_ (by assumption)))) (by first | omega | (rw [sz_zero]; omega))) ?_)
        rintro _ w119_16 ⟨hE119_16, s119_16, rfl, hN119_16⟩
        have hz119_16 := hE119_16.1
        try simp only [size_alloc, size_setB, size_drew] at hz119_16
        have hs119_16 := hN119_16.z_max
        refine WO_call Hvac.call19 (by rfl) (Ret.mono (nNum_spec (OmB.ext hO (by repeat (first | assumption | exact Ext.refl _ | refine Ext.alloc ?_ _ | refine Ext.drew ?_ | refine Ext.setB ?_ (by first | omega | (simp only [size_alloc, size_setB, size_drew]; omega)) _ | exact Ext.trans (by assumption) (by assumption) | refine Ext.trans ?_ (by assumption)))) ⟨by omega, by omega⟩) ?_)
        rintro _ w19_17 ⟨hE19_17, s19_17, rfl, hN19_17, hs19_17⟩
        have hz19_17 := hE19_17.1
        try simp only [size_alloc, size_setB, size_drew] at hz19_17
        try simp only [Int.toNat_natCast, toNat_lit] at hN19_17 hs19_17
        refine WO_call Hvac.call24 (by rfl) (Ret.mono (nAdd_spec (OmB.ext hO (by repeat (first | assumption | exact Ext.refl _ | refine Ext.alloc ?_ _ | refine Ext.drew ?_ | refine Ext.setB ?_ (by first | omega | (simp only [size_alloc, size_setB, size_drew]; omega)) _ | exact Ext.trans (by assumption) (by assumption) | refine Ext.trans ?_ (by assumption)))) (by first | assumption | exact NN.ext (by assumption) (by repeat (first | assumption | exact Ext.refl _ | refine Ext.alloc ?_ _ | refine Ext.drew ?_ | refine Ext.setB ?_ (by first | omega | (simp only [size_alloc, size_setB, size_drew]; omega)) _ | exact Ext.trans (by assumption) (by assumption) | refine Ext.trans ?_ (by assumption)))) (by first | assumption | exact NN.ext (by assumption) (by repeat (first | assumption | exact Ext.refl _ | refine Ext.alloc ?_ _ | refine Ext.drew ?_ | refine Ext.setB ?_ (by first | omega | (simp only [size_alloc, size_setB, size_drew]; omega)) _ | exact Ext.trans (by assumption) (by assumption) | refine Ext.trans ?_ (by assumption)))) (by first | omega | (rw [sz_zero]; omega)) (by first | omega | (rw [sz_zero]; omega))) ?_)
        rintro _ w24_18 ⟨hE24_18, s24_18, rfl, hN24_18⟩
        have hz24_18 := hE24_18.1
        try simp only [size_alloc, size_setB, size_drew] at hz24_18
        have hs24_18 := hN24_18.z_add
        refine WO_call Hvac.call162 (by rfl) (Ret.mono (divided_spec _ (OmB.ext hO (by repeat (first | assumption | exact Ext.refl _ | refine Ext.alloc ?_ _ | refine Ext.drew ?_ | refine Ext.setB ?_ (by first | omega | (simp only [size_alloc, size_setB, size_drew]; omega)) _ | exact Ext.trans (by assumption) (by assumption) | refine Ext.trans ?_ (by assumption)))) _ _ _ _ (by first | assumption | exact NN.ext (by assumption) (by repeat (first | assumption | exact Ext.refl _ | refine Ext.alloc ?_ _ | refine Ext.drew ?_ | refine Ext.setB ?_ (by first | omega | (simp only [size_alloc, size_setB, size_drew]; omega)) _ | exact Ext.trans (by assumption) (by assumption) | refine Ext.trans ?_ (by assumption)))) (by first | omega | (rw [sz_zero]; omega)) _ ⟨by omega, by omega⟩) ?_)
        rintro _ w162_19 ⟨hE162_19, s10, rfl, hN10⟩
        have hz162_19 := hE162_19.1
        try simp only [size_alloc, size_setB, size_drew] at hz162_19
        replace hN10 : NN w162_19 s10 (ynwide I) := hN10
        refine WO_p (PS_assign_slice rfl) ?_
        refine WO_nil ?_
        refine thn_normal ?_
        refine W_seq ?_
        refine W_region rfl ?_
        refine WO_p (PS_assign_slice rfl) ?_
        refine WO_nil ?_
        refine thn_normal ?_
        refine W_seqJ (fun ρ w' => ∃ (s11 : SV), Fr [(1, .slice p sn sc), (7, .int .u64 (ylenV I 1 : Int)), (10, .slice s10.1 s10.2.1 s10.2.2), (11, .slice s11.1 s11.2.1 s11.2.2)] ρ ∧ Ext w w' ∧ NN w' s10 (ynwide I) ∧ NN w' s11 (ynt1 I)) ?_ ?_
        · skip
          refine W_seq ?_
          refine W_region rfl ?_
          refine WO_p (PS_move_slice rfl) ?_
          refine WO_p (PS_move_int rfl) ?_
          refine WO_p (PS_add_u64n rfl rfl (by omega) (by omega)) ?_
          rw [show (96 : Int) + (ylenV I 0 : Int) = ((96 + ylenV I 0 : Nat) : Int) by omega]
          refine WO_p (PS_move_int rfl) ?_
          refine WO_p (PS_min rfl rfl) ?_
          rw [show (if (32 : Int) < (ylenV I 1 : Int) then 32 else (ylenV I 1 : Int)) = ((min (ylenV I 1) 32 : Nat) : Int) by omega]
          refine WO_call Hvac.call195 (by rfl) (Ret.mono (yPart_spec _ (OmB.ext hO (by repeat (first | assumption | exact Ext.refl _ | refine Ext.alloc ?_ _ | refine Ext.drew ?_ | refine Ext.setB ?_ (by first | omega | (simp only [size_alloc, size_setB, size_drew]; omega)) _ | exact Ext.trans (by assumption) (by assumption) | refine Ext.trans ?_ (by assumption)))) _ _ _ _ (by first | assumption | exact AB.ext (by assumption) (by repeat (first | assumption | exact Ext.refl _ | refine Ext.alloc ?_ _ | refine Ext.drew ?_ | refine Ext.setB ?_ (by first | omega | (simp only [size_alloc, size_setB, size_drew]; omega)) _ | exact Ext.trans (by assumption) (by assumption) | refine Ext.trans ?_ (by assumption))) | exact PB.ab (by assumption) | exact PB.ab (PB.ext (by assumption) (by repeat (first | assumption | exact Ext.refl _ | refine Ext.alloc ?_ _ | refine Ext.drew ?_ | refine Ext.setB ?_ (by first | omega | (simp only [size_alloc, size_setB, size_drew]; omega)) _ | exact Ext.trans (by assumption) (by assumption) | refine Ext.trans ?_ (by assumption))))) hsn (96 + ylenV I 0) (min (ylenV I 1) 32) (by omega) (by omega)) ?_)
          rintro _ w195_20 ⟨hE195_20, s195_20, rfl, hN195_20⟩
          have hz195_20 := hE195_20.1
          try simp only [size_alloc, size_setB, size_drew] at hz195_20
          have hl195_20 := PB.len hN195_20
          rw [ycut_len2] at hl195_20
          refine WO_call Hvac.call29 (by rfl) (Ret.mono (nBE_spec (OmB.ext hO (by repeat (first | assumption | exact Ext.refl _ | refine Ext.alloc ?_ _ | refine Ext.drew ?_ | refine Ext.setB ?_ (by first | omega | (simp only [size_alloc, size_setB, size_drew]; omega)) _ | exact Ext.trans (by assumption) (by assumption) | refine Ext.trans ?_ (by assumption)))) (by first | assumption | exact AB.ext (by assumption) (by repeat (first | assumption | exact Ext.refl _ | refine Ext.alloc ?_ _ | refine Ext.drew ?_ | refine Ext.setB ?_ (by first | omega | (simp only [size_alloc, size_setB, size_drew]; omega)) _ | exact Ext.trans (by assumption) (by assumption) | refine Ext.trans ?_ (by assumption))) | exact PB.ab (by assumption) | exact PB.ab (PB.ext (by assumption) (by repeat (first | assumption | exact Ext.refl _ | refine Ext.alloc ?_ _ | refine Ext.drew ?_ | refine Ext.setB ?_ (by first | omega | (simp only [size_alloc, size_setB, size_drew]; omega)) _ | exact Ext.trans (by assumption) (by assumption) | refine Ext.trans ?_ (by assumption))))) (by omega)) ?_)
          rintro _ w29_21 ⟨hE29_21, s8, rfl, hN8⟩
          have hz29_21 := hE29_21.1
          try simp only [size_alloc, size_setB, size_drew] at hz29_21
          replace hN8 : NN w29_21 s8 (ynhead I) := hN8
          have hs8 : sz (ynhead I) ≤ 32 := Nat.le_trans (sz_bvc hIb _ _) (Nat.min_le_right _ _)
          refine WO_call Hvac.call194 (by rfl) (Ret.mono (yBits_spec _ (OmB.ext hO (by repeat (first | assumption | exact Ext.refl _ | refine Ext.alloc ?_ _ | refine Ext.drew ?_ | refine Ext.setB ?_ (by first | omega | (simp only [size_alloc, size_setB, size_drew]; omega)) _ | exact Ext.trans (by assumption) (by assumption) | refine Ext.trans ?_ (by assumption)))) _ _ _ _ (by first | assumption | exact NN.ext (by assumption) (by repeat (first | assumption | exact Ext.refl _ | refine Ext.alloc ?_ _ | refine Ext.drew ?_ | refine Ext.setB ?_ (by first | omega | (simp only [size_alloc, size_setB, size_drew]; omega)) _ | exact Ext.trans (by assumption) (by assumption) | refine Ext.trans ?_ (by assumption)))) (by first | omega | (rw [sz_zero]; omega))) ?_)
          rintro _ w194_22 ⟨hE194_22, rfl⟩
          have hz194_22 := hE194_22.1
          try simp only [size_alloc, size_setB, size_drew] at hz194_22
          refine WO_p (PS_assign_int rfl) ?_
          refine WO_nil ?_
          refine thn_normal ?_
          refine W_seq ?_
          refine W_region rfl ?_
          refine WO_p (PS_move_int rfl) ?_
          refine WO_p (PS_gtr rfl rfl) ?_
          refine WO_nil ?_
          refine thn_normal ?_
          refine W_if rfl (fun hb25 => ?_) (fun hb25 => ?_)
          · have hb25p := hb25.h; try simp only [al_ete, al_dfn, Bool.not_eq_true', Bool.not_eq_false', al_ne, Bool.not_not, al_nn] at hb25p
            have hq1 : 1 < ynb (ynhead I) := by omega
            refine W_region rfl ?_
            refine WO_p (PS_move_int rfl) ?_
            refine WO_p (PS_sub_u64n rfl rfl (by omega) (by omega)) ?_
            rw [show (ynb (ynhead I) : Int) - 1 = ((ynb (ynhead I) - 1 : Nat) : Int) by omega]
            refine WO_call Hvac.call19 (by rfl) (Ret.mono (nNum_spec (OmB.ext hO (by repeat (first | assumption | exact Ext.refl _ | refine Ext.alloc ?_ _ | refine Ext.drew ?_ | refine Ext.setB ?_ (by first | omega | (simp only [size_alloc, size_setB, size_drew]; omega)) _ | exact Ext.trans (by assumption) (by assumption) | refine Ext.trans ?_ (by assumption)))) ⟨by omega, by omega⟩) ?_)
            rintro _ w19_25 ⟨hE19_25, s19_25, rfl, hN19_25, hs19_25⟩
            have hz19_25 := hE19_25.1
            try simp only [size_alloc, size_setB, size_drew] at hz19_25
            try simp only [Int.toNat_natCast, toNat_lit] at hN19_25 hs19_25
            refine WO_p (PS_assign_slice rfl) ?_
            refine WO_nil ?_
            refine thn_normal ?_
            have e9 : ynt1 I = ynb (ynhead I) - 1 := (by unfold ynt1; rw [if_pos hq1]); rw [e9]; exact ⟨(_, _, _), ⟨rfl, rfl, rfl, rfl, trivial⟩, (by repeat (first | assumption | exact Ext.refl _ | refine Ext.alloc ?_ _ | refine Ext.drew ?_ | refine Ext.setB ?_ (by first | omega | (simp only [size_alloc, size_setB, size_drew]; omega)) _ | refine Ext.trans ?_ (by assumption))), (by first | assumption | exact NN.ext (by assumption) (by repeat (first | assumption | exact Ext.refl _ | refine Ext.alloc ?_ _ | refine Ext.drew ?_ | refine Ext.setB ?_ (by first | omega | (simp only [size_alloc, size_setB, size_drew]; omega)) _ | refine Ext.trans ?_ (by assumption)))), (by first | assumption | exact NN.ext (by assumption) (by repeat (first | assumption | exact Ext.refl _ | refine Ext.alloc ?_ _ | refine Ext.drew ?_ | refine Ext.setB ?_ (by first | omega | (simp only [size_alloc, size_setB, size_drew]; omega)) _ | refine Ext.trans ?_ (by assumption))))⟩
          · have hb25p := hb25.h; try simp only [al_ete, al_dfn, Bool.not_eq_true', Bool.not_eq_false', al_ne, Bool.not_not, al_nn] at hb25p
            have hq1 : ¬ 1 < ynb (ynhead I) := by omega
            refine W_skip ?_
            refine thn_normal ?_
            have e9 : ynt1 I = 0 := (by unfold ynt1; rw [if_neg hq1]); rw [e9]; exact ⟨(none, 0, 0), ⟨rfl, rfl, rfl, rfl, trivial⟩, (by repeat (first | assumption | exact Ext.refl _ | refine Ext.alloc ?_ _ | refine Ext.drew ?_ | refine Ext.setB ?_ (by first | omega | (simp only [size_alloc, size_setB, size_drew]; omega)) _ | refine Ext.trans ?_ (by assumption))), (by first | assumption | exact NN.ext (by assumption) (by repeat (first | assumption | exact Ext.refl _ | refine Ext.alloc ?_ _ | refine Ext.drew ?_ | refine Ext.setB ?_ (by first | omega | (simp only [size_alloc, size_setB, size_drew]; omega)) _ | refine Ext.trans ?_ (by assumption)))), NN.nil _⟩
        · rintro ρ13 w13 ⟨s11, hFr13, hE13, hNw13, hNt13⟩
          refine W_env _ hFr13 ?_
          have hz13 := hE13.1
          refine W_seqJ (fun ρ w' => ∃ (s11 : SV), Fr [(1, .slice p sn sc), (7, .int .u64 (ylenV I 1 : Int)), (10, .slice s10.1 s10.2.1 s10.2.2), (11, .slice s11.1 s11.2.1 s11.2.2)] ρ ∧ Ext w w' ∧ NN w' s10 (ynwide I) ∧ NN w' s11 (ynturns I)) ?_ ?_
          · skip
            refine W_seq ?_
            refine W_region rfl ?_
            refine WO_p (PS_move_int rfl) ?_
            refine WO_p (PS_gtr rfl rfl) ?_
            refine WO_nil ?_
            refine thn_normal ?_
            refine W_if rfl (fun hb28 => ?_) (fun hb28 => ?_)
            · have hb28p := hb28.h; try simp only [al_ete, al_dfn, Bool.not_eq_true', Bool.not_eq_false', al_ne, Bool.not_not, al_nn] at hb28p
              have hq2 : 32 < ylenV I 1 := by omega
              refine W_region rfl ?_
              refine WO_p (PS_move_slice rfl) ?_
              refine WO_p (PS_move_int rfl) ?_
              refine WO_p (PS_sub_u64n rfl rfl (by omega) (by omega)) ?_
              refine WO_p (PS_mul_u64n rfl rfl (by omega) (by omega)) ?_
              rw [show 8 * ((ylenV I 1 : Int) - 32) = ((8 * (ylenV I 1 - 32) : Nat) : Int) by omega]
              refine WO_call Hvac.call19 (by rfl) (Ret.mono (nNum_spec (OmB.ext hO (by repeat (first | assumption | exact Ext.refl _ | refine Ext.alloc ?_ _ | refine Ext.drew ?_ | refine Ext.setB ?_ (by first | omega | (simp only [size_alloc, size_setB, size_drew]; omega)) _ | exact Ext.trans (by assumption) (by assumption) | refine Ext.trans ?_ (by assumption)))) ⟨by omega, by omega⟩) ?_)
              rintro _ w19_28 ⟨hE19_28, s19_28, rfl, hN19_28, hs19_28⟩
              have hz19_28 := hE19_28.1
              try simp only [size_alloc, size_setB, size_drew] at hz19_28
              try simp only [Int.toNat_natCast, toNat_lit] at hN19_28 hs19_28
              refine WO_call Hvac.call24 (by rfl) (Ret.mono (nAdd_spec (OmB.ext hO (by repeat (first | assumption | exact Ext.refl _ | refine Ext.alloc ?_ _ | refine Ext.drew ?_ | refine Ext.setB ?_ (by first | omega | (simp only [size_alloc, size_setB, size_drew]; omega)) _ | exact Ext.trans (by assumption) (by assumption) | refine Ext.trans ?_ (by assumption)))) (by first | assumption | exact NN.ext (by assumption) (by repeat (first | assumption | exact Ext.refl _ | refine Ext.alloc ?_ _ | refine Ext.drew ?_ | refine Ext.setB ?_ (by first | omega | (simp only [size_alloc, size_setB, size_drew]; omega)) _ | exact Ext.trans (by assumption) (by assumption) | refine Ext.trans ?_ (by assumption)))) (by first | assumption | exact NN.ext (by assumption) (by repeat (first | assumption | exact Ext.refl _ | refine Ext.alloc ?_ _ | refine Ext.drew ?_ | refine Ext.setB ?_ (by first | omega | (simp only [size_alloc, size_setB, size_drew]; omega)) _ | exact Ext.trans (by assumption) (by assumption) | refine Ext.trans ?_ (by assumption)))) (by first | omega | (rw [sz_zero]; omega)) (by first | omega | (rw [sz_zero]; omega))) ?_)
              rintro _ w24_29 ⟨hE24_29, s24_29, rfl, hN24_29⟩
              have hz24_29 := hE24_29.1
              try simp only [size_alloc, size_setB, size_drew] at hz24_29
              have hs24_29 := hN24_29.z_add
              refine WO_p (PS_assign_slice rfl) ?_
              refine WO_nil ?_
              refine thn_normal ?_
              have e9 : ynturns I = ynt1 I + 8 * (ylenV I 1 - 32) := (by unfold ynturns; rw [if_pos hq2]); rw [e9]; exact ⟨(_, _, _), ⟨rfl, rfl, rfl, rfl, trivial⟩, (by repeat (first | assumption | exact Ext.refl _ | refine Ext.alloc ?_ _ | refine Ext.drew ?_ | refine Ext.setB ?_ (by first | omega | (simp only [size_alloc, size_setB, size_drew]; omega)) _ | refine Ext.trans ?_ (by assumption))), (by first | assumption | exact NN.ext (by assumption) (by repeat (first | assumption | exact Ext.refl _ | refine Ext.alloc ?_ _ | refine Ext.drew ?_ | refine Ext.setB ?_ (by first | omega | (simp only [size_alloc, size_setB, size_drew]; omega)) _ | refine Ext.trans ?_ (by assumption)))), (by first | assumption | exact NN.ext (by assumption) (by repeat (first | assumption | exact Ext.refl _ | refine Ext.alloc ?_ _ | refine Ext.drew ?_ | refine Ext.setB ?_ (by first | omega | (simp only [size_alloc, size_setB, size_drew]; omega)) _ | refine Ext.trans ?_ (by assumption))))⟩
            · have hb28p := hb28.h; try simp only [al_ete, al_dfn, Bool.not_eq_true', Bool.not_eq_false', al_ne, Bool.not_not, al_nn] at hb28p
              have hq2 : ¬ 32 < ylenV I 1 := by omega
              refine W_skip ?_
              refine thn_normal ?_
              have e9 : ynturns I = ynt1 I := (by unfold ynturns; rw [if_neg hq2]); rw [e9]; exact ⟨(_, _, _), ⟨rfl, rfl, rfl, rfl, trivial⟩, (by repeat (first | assumption | exact Ext.refl _ | refine Ext.alloc ?_ _ | refine Ext.drew ?_ | refine Ext.setB ?_ (by first | omega | (simp only [size_alloc, size_setB, size_drew]; omega)) _ | refine Ext.trans ?_ (by assumption))), (by first | assumption | exact NN.ext (by assumption) (by repeat (first | assumption | exact Ext.refl _ | refine Ext.alloc ?_ _ | refine Ext.drew ?_ | refine Ext.setB ?_ (by first | omega | (simp only [size_alloc, size_setB, size_drew]; omega)) _ | refine Ext.trans ?_ (by assumption)))), (by first | assumption | exact NN.ext (by assumption) (by repeat (first | assumption | exact Ext.refl _ | refine Ext.alloc ?_ _ | refine Ext.drew ?_ | refine Ext.setB ?_ (by first | omega | (simp only [size_alloc, size_setB, size_drew]; omega)) _ | refine Ext.trans ?_ (by assumption))))⟩
          · rintro ρ15 w15 ⟨s11, hFr15, hE15, hNw15, hNt15⟩
            refine W_env _ hFr15 ?_
            have hz15 := hE15.1
            refine W_seq ?_
            refine W_region rfl ?_
            refine WO_p (PS_move_slice rfl) ?_
            refine WO_p (PS_move_slice rfl) ?_
            refine WO_call Hvac.call26 (by rfl) (Ret.mono (nMul_spec (OmB.ext hO (by repeat (first | assumption | exact Ext.refl _ | refine Ext.alloc ?_ _ | refine Ext.drew ?_ | refine Ext.setB ?_ (by first | omega | (simp only [size_alloc, size_setB, size_drew]; omega)) _ | exact Ext.trans (by assumption) (by assumption) | refine Ext.trans ?_ (by assumption)))) (by first | assumption | exact NN.ext (by assumption) (by repeat (first | assumption | exact Ext.refl _ | refine Ext.alloc ?_ _ | refine Ext.drew ?_ | refine Ext.setB ?_ (by first | omega | (simp only [size_alloc, size_setB, size_drew]; omega)) _ | exact Ext.trans (by assumption) (by assumption) | refine Ext.trans ?_ (by assumption)))) (by first | assumption | exact NN.ext (by assumption) (by repeat (first | assumption | exact Ext.refl _ | refine Ext.alloc ?_ _ | refine Ext.drew ?_ | refine Ext.setB ?_ (by first | omega | (simp only [size_alloc, size_setB, size_drew]; omega)) _ | exact Ext.trans (by assumption) (by assumption) | refine Ext.trans ?_ (by assumption)))) (by first | omega | (rw [sz_zero]; omega)) (by first | omega | (rw [sz_zero]; omega))) ?_)
            rintro _ w26_30 ⟨hE26_30, s26_30, rfl, hN26_30⟩
            have hz26_30 := hE26_30.1
            try simp only [size_alloc, size_setB, size_drew] at hz26_30
            have hs26_30 := hN26_30.z_mul
            refine WO_p (PS_move_slice rfl) ?_
            refine WO_call Hvac.call19 (by rfl) (Ret.mono (nNum_spec (OmB.ext hO (by repeat (first | assumption | exact Ext.refl _ | refine Ext.alloc ?_ _ | refine Ext.drew ?_ | refine Ext.setB ?_ (by first | omega | (simp only [size_alloc, size_setB, size_drew]; omega)) _ | exact Ext.trans (by assumption) (by assumption) | refine Ext.trans ?_ (by assumption)))) ⟨by omega, by omega⟩) ?_)
            rintro _ w19_31 ⟨hE19_31, s19_31, rfl, hN19_31, hs19_31⟩
            have hz19_31 := hE19_31.1
            try simp only [size_alloc, size_setB, size_drew] at hz19_31
            try simp only [Int.toNat_natCast, toNat_lit] at hN19_31 hs19_31
            refine WO_call Hvac.call119 (by rfl) (Ret.mono (maxNat_spec _ (OmB.ext hO (by repeat (first | assumption | exact Ext.refl _ | refine Ext.alloc ?_ _ | refine Ext.drew ?_ | refine Ext.setB ?_ (by first | omega | (simp only [size_alloc, size_setB, size_drew]; omega)) _ | exact Ext.trans (by assumption) (by assumption) | refine Ext.trans ?_ (by assumption)))) _ _ _ _ (by first | assumption | exact NN.ext (by assumption) (by repeat (first | assumption | exact Ext.refl _ | refine Ext.alloc ?_ _ | refine Ext.drew ?_ | refine Ext.setB ?_ (by first | omega | (simp only [size_alloc, size_setB, size_drew]; omega)) _ | exact Ext.trans (by assumption) (by assumption) | refine Ext.trans ?_ (by assumption)))) (by first | omega | (rw [sz_zero]; omega)) _ _ _ _ (by first | assumption | exact NN.ext (by assumption) (by repeat (first | assumption | exact Ext.refl _ | refine Ext.alloc ?_ _ | refine Ext.drew ?_ | refine Ext.setB ?_ (by first | omega | (simp only [size_alloc, size_setB, size_drew]; omega)) _ | exact Ext.trans (by assumption) (by assumption) | refine Ext.trans ?_ (by assumption)))) (by first | omega | (rw [sz_zero]; omega))) ?_)
            rintro _ w119_32 ⟨hE119_32, s119_32, rfl, hN119_32⟩
            have hz119_32 := hE119_32.1
            try simp only [size_alloc, size_setB, size_drew] at hz119_32
            have hs119_32 := hN119_32.z_max
            refine WO_call Hvac.call26 (by rfl) (Ret.mono (nMul_spec (OmB.ext hO (by repeat (first | assumption | exact Ext.refl _ | refine Ext.alloc ?_ _ | refine Ext.drew ?_ | refine Ext.setB ?_ (by first | omega | (simp only [size_alloc, size_setB, size_drew]; omega)) _ | exact Ext.trans (by assumption) (by assumption) | refine Ext.trans ?_ (by assumption)))) (by first | assumption | exact NN.ext (by assumption) (by repeat (first | assumption | exact Ext.refl _ | refine Ext.alloc ?_ _ | refine Ext.drew ?_ | refine Ext.setB ?_ (by first | omega | (simp only [size_alloc, size_setB, size_drew]; omega)) _ | exact Ext.trans (by assumption) (by assumption) | refine Ext.trans ?_ (by assumption)))) (by first | assumption | exact NN.ext (by assumption) (by repeat (first | assumption | exact Ext.refl _ | refine Ext.alloc ?_ _ | refine Ext.drew ?_ | refine Ext.setB ?_ (by first | omega | (simp only [size_alloc, size_setB, size_drew]; omega)) _ | exact Ext.trans (by assumption) (by assumption) | refine Ext.trans ?_ (by assumption)))) (by first | omega | (rw [sz_zero]; omega)) (by first | omega | (rw [sz_zero]; omega))) ?_)
            rintro _ w26_33 ⟨hE26_33, s26_33, rfl, hN26_33⟩
            have hz26_33 := hE26_33.1
            try simp only [size_alloc, size_setB, size_drew] at hz26_33
            have hs26_33 := hN26_33.z_mul
            refine WO_p (PS_assign_slice rfl) ?_
            refine WO_nil ?_
            refine thn_normal ?_
            refine W_seq ?_
            refine W_region rfl ?_
            refine WO_call Hvac.call19 (by rfl) (Ret.mono (nNum_spec (OmB.ext hO (by repeat (first | assumption | exact Ext.refl _ | refine Ext.alloc ?_ _ | refine Ext.drew ?_ | refine Ext.setB ?_ (by first | omega | (simp only [size_alloc, size_setB, size_drew]; omega)) _ | exact Ext.trans (by assumption) (by assumption) | refine Ext.trans ?_ (by assumption)))) ⟨by omega, by omega⟩) ?_)
            rintro _ w19_34 ⟨hE19_34, s19_34, rfl, hN19_34, hs19_34⟩
            have hz19_34 := hE19_34.1
            try simp only [size_alloc, size_setB, size_drew] at hz19_34
            try simp only [Int.toNat_natCast, toNat_lit] at hN19_34 hs19_34
            refine WO_p (PS_move_slice rfl) ?_
            refine WO_call Hvac.call162 (by rfl) (Ret.mono (divided_spec _ (OmB.ext hO (by repeat (first | assumption | exact Ext.refl _ | refine Ext.alloc ?_ _ | refine Ext.drew ?_ | refine Ext.setB ?_ (by first | omega | (simp only [size_alloc, size_setB, size_drew]; omega)) _ | exact Ext.trans (by assumption) (by assumption) | refine Ext.trans ?_ (by assumption)))) _ _ _ _ (by first | assumption | exact NN.ext (by assumption) (by repeat (first | assumption | exact Ext.refl _ | refine Ext.alloc ?_ _ | refine Ext.drew ?_ | refine Ext.setB ?_ (by first | omega | (simp only [size_alloc, size_setB, size_drew]; omega)) _ | exact Ext.trans (by assumption) (by assumption) | refine Ext.trans ?_ (by assumption)))) (by first | omega | (rw [sz_zero]; omega)) _ ⟨by omega, by omega⟩) ?_)
            rintro _ w162_35 ⟨hE162_35, s162_35, rfl, hN162_35⟩
            have hz162_35 := hE162_35.1
            try simp only [size_alloc, size_setB, size_drew] at hz162_35
            try simp only [Int.toNat_natCast, toNat_lit] at hN162_35
            have hs162_35 := hN162_35.z_div
            refine WO_call Hvac.call119 (by rfl) (Ret.mono (maxNat_spec _ (OmB.ext hO (by repeat (first | assumption | exact Ext.refl _ | refine Ext.alloc ?_ _ | refine Ext.drew ?_ | refine Ext.setB ?_ (by first | omega | (simp only [size_alloc, size_setB, size_drew]; omega)) _ | exact Ext.trans (by assumption) (by assumption) | refine Ext.trans ?_ (by assumption)))) _ _ _ _ (by first | assumption | exact NN.ext (by assumption) (by repeat (first | assumption | exact Ext.refl _ | refine Ext.alloc ?_ _ | refine Ext.drew ?_ | refine Ext.setB ?_ (by first | omega | (simp only [size_alloc, size_setB, size_drew]; omega)) _ | exact Ext.trans (by assumption) (by assumption) | refine Ext.trans ?_ (by assumption)))) (by first | omega | (rw [sz_zero]; omega)) _ _ _ _ (by first | assumption | exact NN.ext (by assumption) (by repeat (first | assumption | exact Ext.refl _ | refine Ext.alloc ?_ _ | refine Ext.drew ?_ | refine Ext.setB ?_ (by first | omega | (simp only [size_alloc, size_setB, size_drew]; omega)) _ | exact Ext.trans (by assumption) (by assumption) | refine Ext.trans ?_ (by assumption)))) (by first | omega | (rw [sz_zero]; omega))) ?_)
            rintro _ w119_36 ⟨hE119_36, s119_36, rfl, hN119_36⟩
            have hz119_36 := hE119_36.1
            try simp only [size_alloc, size_setB, size_drew] at hz119_36
            have hs119_36 := hN119_36.z_max
            refine WO_p (PS_assign_slice rfl) ?_
            refine WO_p (PS_assign_bool rfl) ?_
            refine WO_nil ?_
            refine thn_normal ?_
            refine W_ret ?_
            refine inBlk_ret ?_
            refine thn_ret ?_
            refine bodyQ_ret2 Hvac.results108 rfl rfl (.slice _ _ _) (.bool _) rfl rfl ?_
            have e9 : ynatc k I = (max 200 (ynwide I * ynwide I * max (ynturns I) 1 / 3), true) := (by unfold ynatc; rw [if_neg hk4, if_pos ⟨hk5, hok⟩]); rw [e9]; exact ⟨(by repeat (first | assumption | exact Ext.refl _ | refine Ext.alloc ?_ _ | refine Ext.drew ?_ | refine Ext.setB ?_ (by first | omega | (simp only [size_alloc, size_setB, size_drew]; omega)) _ | refine Ext.trans ?_ (by assumption))), (_, _, _), rfl, (by first | assumption | exact NN.ext (by assumption) (by repeat (first | assumption | exact Ext.refl _ | refine Ext.alloc ?_ _ | refine Ext.drew ?_ | refine Ext.setB ?_ (by first | omega | (simp only [size_alloc, size_setB, size_drew]; omega)) _ | refine Ext.trans ?_ (by assumption))))⟩
    · have hb10p := hb10.h; try simp only [al_ete, al_dfn, Bool.not_eq_true', Bool.not_eq_false', al_ne, Bool.not_not, al_nn] at hb10p
      have hk5 : ¬ (k = 5 ∧ ylenOk I) := fun h9 => by omega
      refine W_skip ?_
      refine inBlk_normal ?_
      refine thn_normal ?_
      refine W_seq ?_
      refine W_region rfl ?_
      refine WO_p (PS_assign_slice rfl) ?_
      refine WO_p (PS_assign_bool rfl) ?_
      refine WO_nil ?_
      refine thn_normal ?_
      refine W_ret ?_
      refine bodyQ_ret2 Hvac.results108 rfl rfl (.slice _ _ _) (.bool _) rfl rfl ?_
      have e9 : ynatc k I = (0, false) := (by unfold ynatc; rw [if_neg hk4, if_neg hk5]); rw [e9]; exact ⟨(by repeat (first | assumption | exact Ext.refl _ | refine Ext.alloc ?_ _ | refine Ext.drew ?_ | refine Ext.setB ?_ (by first | omega | (simp only [size_alloc, size_setB, size_drew]; omega)) _ | refine Ext.trans ?_ (by assumption))), (none, 0, 0), rfl, NN.nil _⟩

end Go.Proofs.YgvacwGreat
