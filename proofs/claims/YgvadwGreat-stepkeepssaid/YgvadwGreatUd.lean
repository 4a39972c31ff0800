import Derived.Test.YgvadwGreatUc
namespace Go.Proofs.YgvadwGreat
set_option linter.unusedSimpArgs false
set_option linter.unusedVariables false
theorem ic_set (k : IntKind) (l : List Int) (i : Nat) (y : Int) : (ic k l).setIfInBounds (0 + i * 1) (.int k y) = ic k (l.set i y) := by
  rw [show 0 + i * 1 = i by omega]
  refine Array.ext_getElem? fun j => ?_
  rw [Array.getElem?_setIfInBounds, ic_get, ic_get, List.getElem?_set, size_ic]
  by_cases h : i = j
  · subst h
    by_cases h2 : i < l.length
    · simp [h2]
    · simp [h2, List.getElem?_eq_none (by omega : l.length ≤ i)]
  · simp [h]
theorem wd_set {W : List Int} (h : Wd W) (i : Nat) {y : Int} (hy : 0 ≤ y ∧ y ≤ 18446744073709551615) : Wd (W.set i y) := by
  refine ⟨by rw [List.length_set]; exact h.1, ?_⟩
  intro x hx
  rcases List.mem_or_eq_of_mem_set hx with hx | hx
  · exact h.2 x hx
  · subst hx; exact hy
theorem shl_bd (a : Int) (m : Nat) : 0 ≤ a * 2 ^ m % 18446744073709551616 ∧ a * 2 ^ m % 18446744073709551616 ≤ 18446744073709551615 := by omega

set_option maxRecDepth 10000 in
theorem shl_spec (W X : List Int) (w : World) (hW : Wd W) (hX : Wd X) : Ret Hvad.prog 185 #[.agg (ic .u64 W), .agg (ic .u64 X)] w fun u w' => Ext w w' ∧ ∃ R, u = .agg (ic .u64 R) ∧ Wd R := by
  have hWl := hW.1
  have hXl := hX.1
  refine Ret_of_W Hvad.func185 rfl rfl ?_
  refine W_seq ?_
  refine W_region rfl ?_
  refine WO_box (.agg _) rfl ?_
  refine WO_box (.agg _) rfl ?_
  refine WO_alloc Hvad.zeroValue59 ?_
  refine WO_nil ?_
  refine thn_normal ?_
  refine W_seq ?_
  refine W_region rfl ?_
  refine WO_loadA _ Hvad.isAgg59 Hvad.sizeOf59 rfl (Hb.h (by repeat (first | assumption | exact Hb.newY _ _ | refine Hb.alloc ?_ | refine Hb.drew ?_ | refine Hb.ext (by assumption) ?_ | exact Hb.setSameL (by first | omega | (simp only [size_alloc, size_setB, size_drew]; omega)) | exact Hb.setSame (by assumption) | refine Hb.set (by first | omega | (simp only [size_alloc, size_setB, size_drew]; omega)) ?_ ))) (by first | omega | assumption | rfl | decide | exact Nat.le_refl _ | (simp only [size_ic, Value.cells]; omega) | simp) (Xt.h (by first | assumption | exact Xt.whole rfl rfl | exact Xt.whole rfl (by simp only [size_ic, Value.cells]; omega) | exact ⟨rfl⟩)) ?_
  refine WO_call Hvad.call257 (by rfl) (Ret.mono (below_spec W 256 _ hW) ?_)
  rintro _ w1 ⟨hE1, x, q, rfl, hx, hq⟩
  have hz1 := hE1.1
  simp only [size_alloc] at hz1
  refine WO_p (PS_move_tuple rfl) ?_
  refine WO_p (PS_extract_int rfl rfl) ?_
  refine WO_p (PS_extract_bool rfl rfl) ?_
  refine WO_p (PS_assign_int rfl) ?_
  refine WO_p (PS_assign_bool rfl) ?_
  refine WO_nil ?_
  refine thn_normal ?_
  refine W_seq ?_
  refine W_seq ?_
  refine W_region rfl ?_
  refine WO_p (PS_move_bool rfl) ?_
  refine WO_p (PS_not rfl) ?_
  refine WO_nil ?_
  refine thn_normal ?_
  refine W_if rfl (fun hb4 => ?_) (fun hb4 => ?_)
  · have hb4p := hb4.h; try simp only [al_ete, al_dfn, Bool.not_eq_true', Bool.not_eq_false', al_ne, Bool.not_not, al_nn] at hb4p
    refine W_seq ?_
    refine W_region rfl ?_
    refine WO_p (PS_buildI (k := .u64) (zs := [0, 0, 0, 0]) (ps := []) (L := [0, 0, 0, 0]) Hvad.zeroValue59 Hvad.runUnderlying59 Hvad.sizeOf26 rfl rfl rfl rfl) ?_
    first | refine WO_storeW Hvad.sizeOf59 rfl (v := .agg _) rfl (Hb.h (by repeat (first | assumption | exact Hb.newY _ _ | refine Hb.alloc ?_ | refine Hb.drew ?_ | refine Hb.ext (by assumption) ?_ | exact Hb.setSameL (by first | omega | (simp only [size_alloc, size_setB, size_drew]; omega)) | exact Hb.setSame (by assumption) | refine Hb.set (by first | omega | (simp only [size_alloc, size_setB, size_drew]; omega)) ?_ ))) rfl (by first | omega | assumption | rfl | decide | exact Nat.le_refl _ | (simp only [size_ic, Value.cells]; omega) | simp) (by first | omega | assumption | rfl | decide | exact Nat.le_refl _ | (simp only [size_ic, Value.cells]; omega) | simp) (by first | exact oneCell_ic | assumption) ?_ | refine WO_store Hvad.sizeOf59 rfl (v := .agg _) rfl (Hb.h (by repeat (first | assumption | exact Hb.newY _ _ | refine Hb.alloc ?_ | refine Hb.drew ?_ | refine Hb.ext (by assumption) ?_ | exact Hb.setSameL (by first | omega | (simp only [size_alloc, size_setB, size_drew]; omega)) | exact Hb.setSame (by assumption) | refine Hb.set (by first | omega | (simp only [size_alloc, size_setB, size_drew]; omega)) ?_ ))) (by first | omega | assumption | rfl | decide | exact Nat.le_refl _ | (simp only [size_ic, Value.cells]; omega) | simp) (by first | omega | assumption | rfl | decide | exact Nat.le_refl _ | (simp only [size_ic, Value.cells]; omega) | simp) (by first | exact oneCell_ic | assumption) ?_
    refine WO_nil ?_
    refine thn_normal ?_
    refine W_ret ?_
    refine thn_ret ?_
    refine bodyQ_cell1 Hvad.results185 rfl Hvad.isAgg59 Hvad.sizeOf59 rfl (Hb.h (by repeat (first | assumption | exact Hb.newY _ _ | refine Hb.alloc ?_ | refine Hb.drew ?_ | refine Hb.ext (by assumption) ?_ | exact Hb.setSameL (by first | omega | (simp only [size_alloc, size_setB, size_drew]; omega)) | exact Hb.setSame (by assumption) | refine Hb.set (by first | omega | (simp only [size_alloc, size_setB, size_drew]; omega)) ?_ ))) (by first | omega | assumption | rfl | decide | exact Nat.le_refl _ | (simp only [size_ic, Value.cells]; omega) | simp) ?_
    first
    | exact ⟨(by repeat (first | assumption | exact Ext.refl _ | refine Ext.alloc ?_ _ | refine Ext.drew ?_ | refine Ext.setB ?_ (by first | omega | (simp only [size_alloc, size_setB, size_drew]; omega)) _ | refine Ext.trans ?_ (by assumption))), _, rfl, Wd0⟩
    | exact ⟨(by repeat (first | assumption | exact Ext.refl _ | refine Ext.alloc ?_ _ | refine Ext.drew ?_ | refine Ext.setB ?_ (by first | omega | (simp only [size_alloc, size_setB, size_drew]; omega)) _ | refine Ext.trans ?_ (by assumption))), _, rfl, hR⟩
  · have hb4p := hb4.h; try simp only [al_ete, al_dfn, Bool.not_eq_true', Bool.not_eq_false', al_ne, Bool.not_not, al_nn] at hb4p
    have hx256 := hq hb4p
    refine W_skip ?_
    refine thn_normal ?_
    refine W_seq ?_
    refine W_region rfl ?_
    refine WO_alloc Hvad.zeroValue59 ?_
    refine WO_nil ?_
    refine thn_normal ?_
    refine W_seq ?_
    refine W_seq ?_
    refine W_region rfl ?_
    refine WO_p (PS_move_int rfl) ?_
    refine WO_p (PS_quo_u64 rfl rfl (by omega) (by omega) (by omega)) ?_
    refine WO_p (PS_assign_int rfl) ?_
    refine WO_nil ?_
    refine thn_normal ?_
    refine W_block ?_
    refine W_loopN (fun m ρ w' => ∃ (i : Int) (R : List Int), Wd R ∧ x / 64 ≤ i ∧ i + m = 4 ∧ Fr [(3, .pointer (some ⟨(w.alloc (.cells (Value.agg (ic .u64 W)).cells 59)).heap.size, 0, none⟩)), (4, .pointer (some ⟨((w.alloc (.cells (Value.agg (ic .u64 W)).cells 59)).alloc (.cells (Value.agg (ic .u64 X)).cells 59)).heap.size, 0, none⟩)), (5, .int .u64 x), (7, .pointer (some ⟨w1.heap.size, 0, none⟩)), (8, .int .u64 i)] ρ ∧ Ext w w' ∧ Hb w' ((w.alloc (.cells (Value.agg (ic .u64 W)).cells 59)).heap.size) (.cells (ic .u64 X) 59 (0, 0)) ∧ Hb w' (((w.alloc (.cells (Value.agg (ic .u64 W)).cells 59)).alloc (.cells (Value.agg (ic .u64 X)).cells 59)).heap.size) (.cells (ic .u64 [0, 0, 0, 0]) 59 (0, 0)) ∧ Hb w' w1.heap.size (.cells (ic .u64 R) 59 (0, 0))) (4 - x / 64).toNat ?_ ?_
    · exact ⟨x / 64, [0, 0, 0, 0], Wd0, by omega, by omega, ⟨rfl, rfl, rfl, rfl, rfl, trivial⟩, Ext.alloc (Ext.trans (Ext.alloc (Ext.alloc (Ext.alloc (Ext.refl w) _) _) _) hE1) _, Hb.alloc (Hb.ext hE1 (Hb.alloc (Hb.newY _ _))), Hb.alloc (Hb.ext hE1 (Hb.newY _ _)), Hb.newY _ _⟩
    intro m ρ w2 hI
    obtain ⟨i, R, hR, hi0, him, hF, hE2, hX2, hR0, hV2⟩ := hI
    clear hE1
    have hRl := hR.1
    refine W_env _ hF ?_
    refine W_seq ?_
    refine W_seq ?_
    refine W_region rfl ?_
    refine WO_p (PS_move_int rfl) ?_
    refine WO_p (PS_lss rfl rfl) ?_
    refine WO_nil ?_
    refine thn_normal ?_
    refine W_if rfl (fun hb6 => ?_) (fun hb6 => ?_)
    · have hb6p := hb6.h; try simp only [al_ete, al_dfn, Bool.not_eq_true', Bool.not_eq_false', al_ne, Bool.not_not, al_nn] at hb6p
      have hce : Ce (ic .u64 X) (0 + (i - x / 64).toNat * 1) (.int .u64 (X.getD (i - x / 64).toNat 0)) := ce_ic (by omega)
      have hxb := wd_get hX (i - x / 64).toNat
      refine W_skip ?_
      refine thn_normal ?_
      refine W_seq ?_
      refine W_block ?_
      refine W_seq ?_
      refine W_region rfl ?_
      refine WO_p (PS_move_int rfl) ?_
      refine WO_p (PS_move_int rfl) ?_
      refine WO_p (PS_move_int rfl) ?_
      refine WO_p (PS_quo_u64 rfl rfl (by omega) (by omega) (by omega)) ?_
      refine WO_p (PS_sub_u64n rfl rfl (by omega) (by omega)) ?_
      refine WO_p (PS_indexA Hvad.runUnderlying59 Hvad.sizeOf26 rfl rfl (by omega) (by omega)) ?_
      refine WO_load (.int _ _) Hvad.isAgg26 rfl (Hb.h (by repeat (first | assumption | exact Hb.newY _ _ | refine Hb.alloc ?_ | refine Hb.drew ?_ | refine Hb.ext (by assumption) ?_ | exact Hb.setSameL (by first | omega | (simp only [size_alloc, size_setB, size_drew]; omega)) | exact Hb.setSame (by assumption) | refine Hb.set (by first | omega | (simp only [size_alloc, size_setB, size_drew]; omega)) ?_ ))) (Ce.h (by first | assumption | exact ⟨rfl⟩)) ?_
      refine WO_p (PS_move_int rfl) ?_
      refine WO_p (PS_rem_u64 rfl rfl (by omega) (by omega)) ?_
      refine WO_p (PS_shl_u64 _ rfl rfl (by omega) rfl) ?_
      refine WO_p (PS_indexA Hvad.runUnderlying59 Hvad.sizeOf26 rfl rfl (by omega) (by omega)) ?_
      refine WO_store1 Hvad.sizeOf26 rfl (v := .int _ _) rfl hV2.h rfl (by rw [size_ic]; omega) rfl ?_
      rw [ic_set]
      have hR2 := wd_set hR i.toNat (shl_bd (X.getD (i - x / 64).toNat 0) (min (x % 64).toNat 64))
      have hn := Hb.set (w := w2) (b := w1.heap.size) (o' := .cells (ic .u64 (R.set i.toNat (X.getD (i - x / 64).toNat 0 * 2 ^ (min (x % 64).toNat 64) % 18446744073709551616))) 59 (0, 0)) (by simp only [size_alloc]; omega) hX2
      have hnR := Hb.set (w := w2) (b := w1.heap.size) (o' := .cells (ic .u64 (R.set i.toNat (X.getD (i - x / 64).toNat 0 * 2 ^ (min (x % 64).toNat 64) % 18446744073709551616))) 59 (0, 0)) (by simp only [size_alloc]; omega) hR0
      have hnV := Hb.setSame (o' := .cells (ic .u64 (R.set i.toNat (X.getD (i - x / 64).toNat 0 * 2 ^ (min (x % 64).toNat 64) % 18446744073709551616))) 59 (0, 0)) hV2
      refine WO_nil ?_
      refine thn_normal ?_
      refine W_seq ?_
      refine W_region rfl ?_
      refine WO_p (PS_move_int rfl) ?_
      refine WO_p (PS_move_int rfl) ?_
      refine WO_p (PS_quo_u64 rfl rfl (by omega) (by omega) (by omega)) ?_
      refine WO_p (PS_gtr rfl rfl) ?_
      refine WO_nil ?_
      refine thn_normal ?_
      refine W_if rfl (fun hb8 => ?_) (fun hb8 => ?_)
      · have hb8p := hb8.h; try simp only [al_ete, al_dfn, Bool.not_eq_true', Bool.not_eq_false', al_ne, Bool.not_not, al_nn] at hb8p
        have hce2 : Ce (ic .u64 (R.set i.toNat (X.getD (i - x / 64).toNat 0 * 2 ^ (min (x % 64).toNat 64) % 18446744073709551616))) (0 + i.toNat * 1) (.int .u64 ((R.set i.toNat (X.getD (i - x / 64).toNat 0 * 2 ^ (min (x % 64).toNat 64) % 18446744073709551616)).getD i.toNat 0)) := ce_ic (by rw [List.length_set]; omega)
        have hce3 : Ce (ic .u64 X) (0 + (i - x / 64 - 1).toNat * 1) (.int .u64 (X.getD (i - x / 64 - 1).toNat 0)) := ce_ic (by omega)
        refine W_drawE [false, false, false, false, false, false, false, false, false, false, false, false, false, false, false, false, false] hmix (by kernel_rfl) rfl ?_
        refine WH_p (PS_move_int rfl) rfl ?_
        refine WH_p (PS_indexA Hvad.runUnderlying59 Hvad.sizeOf26 rfl rfl (by omega) (by omega)) rfl ?_
        refine WH_load (.int _ _) Hvad.isAgg26 rfl (Hb.h (by repeat (first | assumption | exact Hb.newY _ _ | refine Hb.alloc ?_ | refine Hb.drew ?_ | refine Hb.ext (by assumption) ?_ | exact Hb.setSameL (by first | omega | (simp only [size_alloc, size_setB, size_drew]; omega)) | exact Hb.setSame (by assumption) | refine Hb.set (by first | omega | (simp only [size_alloc, size_setB, size_drew]; omega)) ?_ ))) (Ce.h (by first | assumption | exact ⟨rfl⟩)) ?_
        refine WH_p (PS_move_int rfl) rfl ?_
        refine WH_p (PS_move_int rfl) rfl ?_
        refine WH_p (PS_quo_u64 rfl rfl (by omega) (by omega) (by omega)) rfl ?_
        refine WH_p (PS_sub_u64n rfl rfl (by omega) (by omega)) rfl ?_
        refine WH_p (PS_sub_u64n rfl rfl (by omega) (by omega)) rfl ?_
        refine WH_p (PS_indexA Hvad.runUnderlying59 Hvad.sizeOf26 rfl rfl (by omega) (by omega)) rfl ?_
        refine WH_load (.int _ _) Hvad.isAgg26 rfl (Hb.h (by repeat (first | assumption | exact Hb.newY _ _ | refine Hb.alloc ?_ | refine Hb.drew ?_ | refine Hb.ext (by assumption) ?_ | exact Hb.setSameL (by first | omega | (simp only [size_alloc, size_setB, size_drew]; omega)) | exact Hb.setSame (by assumption) | refine Hb.set (by first | omega | (simp only [size_alloc, size_setB, size_drew]; omega)) ?_ ))) (Ce.h (by first | assumption | exact ⟨rfl⟩)) ?_
        refine WH_p (PS_move_int rfl) rfl ?_
        refine WH_p (PS_rem_u64 rfl rfl (by omega) (by omega)) rfl ?_
        refine WH_p (PS_sub_u64n rfl rfl (by omega) (by omega)) rfl ?_
        refine WH_p (PS_shr_u64 _ rfl rfl (by omega) rfl) rfl ?_
        refine WH_p (PS_or_u64 rfl rfl) rfl ?_
        refine WH_p (PS_indexA Hvad.runUnderlying59 Hvad.sizeOf26 rfl rfl (by omega) (by omega)) rfl ?_
        refine WH_store1 Hvad.sizeOf26 rfl (v := .int _ _) rfl hnV.drew.h rfl (by rw [size_ic, List.length_set]; omega) rfl (fun h => by cases h) ?_
        rw [ic_set]
        refine WH_nil ?_
        refine inBlk_normal ?_
        refine thn_normal ?_
        refine W_region rfl ?_
        refine WO_p (PS_move_int rfl) ?_
        refine WO_p (PS_add_u64n rfl rfl (by omega) (by omega)) ?_
        refine WO_p (PS_assign_int rfl) ?_
        refine WO_nil ?_
        refine thn_normal ?_
        first
        | exact ⟨m - 1, by omega, i + 1, _, hR2, by omega, by omega, ⟨rfl, rfl, rfl, rfl, rfl, trivial⟩, Ext.setB hE2 (by omega) _, hn, hnR, hnV⟩
        | exact ⟨m - 1, by omega, i + 1, _, wd_set hR2 i.toNat (bOr_bd _ _), by omega, by omega, ⟨rfl, rfl, rfl, rfl, rfl, trivial⟩, Ext.setB (Ext.drew (Ext.setB hE2 (by omega) _)) (by omega) _, Hb.set (by simp only [size_alloc]; omega) hn.drew, Hb.set (by simp only [size_alloc]; omega) hnR.drew, Hb.setSame hnV.drew⟩
      · have hb8p := hb8.h; try simp only [al_ete, al_dfn, Bool.not_eq_true', Bool.not_eq_false', al_ne, Bool.not_not, al_nn] at hb8p
        refine W_skip ?_
        refine inBlk_normal ?_
        refine thn_normal ?_
        refine W_region rfl ?_
        refine WO_p (PS_move_int rfl) ?_
        refine WO_p (PS_add_u64n rfl rfl (by omega) (by omega)) ?_
        refine WO_p (PS_assign_int rfl) ?_
        refine WO_nil ?_
        refine thn_normal ?_
        first
        | exact ⟨m - 1, by omega, i + 1, _, hR2, by omega, by omega, ⟨rfl, rfl, rfl, rfl, rfl, trivial⟩, Ext.setB hE2 (by omega) _, hn, hnR, hnV⟩
        | exact ⟨m - 1, by omega, i + 1, _, wd_set hR2 i.toNat (bOr_bd _ _), by omega, by omega, ⟨rfl, rfl, rfl, rfl, rfl, trivial⟩, Ext.setB (Ext.drew (Ext.setB hE2 (by omega) _)) (by omega) _, Hb.set (by simp only [size_alloc]; omega) hn.drew, Hb.set (by simp only [size_alloc]; omega) hnR.drew, Hb.setSame hnV.drew⟩
    · have hb6p := hb6.h; try simp only [al_ete, al_dfn, Bool.not_eq_true', Bool.not_eq_false', al_ne, Bool.not_not, al_nn] at hb6p
      refine W_exit ?_
      refine thn_exit ?_
      refine thn_exit ?_
      refine inBlk_exit ?_
      refine thn_normal ?_
      refine W_seq ?_
      refine W_region rfl ?_
      refine WO_loadA _ Hvad.isAgg59 Hvad.sizeOf59 rfl (Hb.h (by repeat (first | assumption | exact Hb.newY _ _ | refine Hb.alloc ?_ | refine Hb.drew ?_ | refine Hb.ext (by assumption) ?_ | exact Hb.setSameL (by first | omega | (simp only [size_alloc, size_setB, size_drew]; omega)) | exact Hb.setSame (by assumption) | refine Hb.set (by first | omega | (simp only [size_alloc, size_setB, size_drew]; omega)) ?_ ))) (by first | omega | assumption | rfl | decide | exact Nat.le_refl _ | (simp only [size_ic, Value.cells]; omega) | simp) (Xt.h (by first | assumption | exact Xt.whole rfl rfl | exact Xt.whole rfl (by simp only [size_ic, Value.cells]; omega) | exact ⟨rfl⟩)) ?_
      first | refine WO_storeW Hvad.sizeOf59 rfl (v := .agg _) rfl (Hb.h (by repeat (first | assumption | exact Hb.newY _ _ | refine Hb.alloc ?_ | refine Hb.drew ?_ | refine Hb.ext (by assumption) ?_ | exact Hb.setSameL (by first | omega | (simp only [size_alloc, size_setB, size_drew]; omega)) | exact Hb.setSame (by assumption) | refine Hb.set (by first | omega | (simp only [size_alloc, size_setB, size_drew]; omega)) ?_ ))) rfl (by first | omega | assumption | rfl | decide | exact Nat.le_refl _ | (simp only [size_ic, Value.cells]; omega) | simp) (by first | omega | assumption | rfl | decide | exact Nat.le_refl _ | (simp only [size_ic, Value.cells]; omega) | simp) (by first | exact oneCell_ic | assumption) ?_ | refine WO_store Hvad.sizeOf59 rfl (v := .agg _) rfl (Hb.h (by repeat (first | assumption | exact Hb.newY _ _ | refine Hb.alloc ?_ | refine Hb.drew ?_ | refine Hb.ext (by assumption) ?_ | exact Hb.setSameL (by first | omega | (simp only [size_alloc, size_setB, size_drew]; omega)) | exact Hb.setSame (by assumption) | refine Hb.set (by first | omega | (simp only [size_alloc, size_setB, size_drew]; omega)) ?_ ))) (by first | omega | assumption | rfl | decide | exact Nat.le_refl _ | (simp only [size_ic, Value.cells]; omega) | simp) (by first | omega | assumption | rfl | decide | exact Nat.le_refl _ | (simp only [size_ic, Value.cells]; omega) | simp) (by first | exact oneCell_ic | assumption) ?_
      refine WO_nil ?_
      refine thn_normal ?_
      refine W_ret ?_
      refine bodyQ_cell1 Hvad.results185 rfl Hvad.isAgg59 Hvad.sizeOf59 rfl (Hb.h (by repeat (first | assumption | exact Hb.newY _ _ | refine Hb.alloc ?_ | refine Hb.drew ?_ | refine Hb.ext (by assumption) ?_ | exact Hb.setSameL (by first | omega | (simp only [size_alloc, size_setB, size_drew]; omega)) | exact Hb.setSame (by assumption) | refine Hb.set (by first | omega | (simp only [size_alloc, size_setB, size_drew]; omega)) ?_ ))) (by first | omega | assumption | rfl | decide | exact Nat.le_refl _ | (simp only [size_ic, Value.cells]; omega) | simp) ?_
      first
      | exact ⟨(by repeat (first | assumption | exact Ext.refl _ | refine Ext.alloc ?_ _ | refine Ext.drew ?_ | refine Ext.setB ?_ (by first | omega | (simp only [size_alloc, size_setB, size_drew]; omega)) _ | refine Ext.trans ?_ (by assumption))), _, rfl, Wd0⟩
      | exact ⟨(by repeat (first | assumption | exact Ext.refl _ | refine Ext.alloc ?_ _ | refine Ext.drew ?_ | refine Ext.setB ?_ (by first | omega | (simp only [size_alloc, size_setB, size_drew]; omega)) _ | refine Ext.trans ?_ (by assumption))), _, rfl, hR⟩

set_option maxRecDepth 10000 in
theorem down_spec (W X : List Int) (f : Int) (w : World) (hW : Wd W) (hX : Wd X) (hf : 0 ≤ f ∧ f ≤ 18446744073709551615) : Ret Hvad.prog 259 #[.agg (ic .u64 W), .agg (ic .u64 X), .int .u64 f] w fun u w' => Ext w w' ∧ ∃ R, u = .agg (ic .u64 R) ∧ Wd R := by
  have hWl := hW.1
  have hXl := hX.1
  have hF4 : Wd [f, f, f, f] := wd4 hf hf hf hf
  refine Ret_of_W Hvad.func259 rfl rfl ?_
  refine W_seq ?_
  refine W_region rfl ?_
  refine WO_box (.agg _) rfl ?_
  refine WO_box (.agg _) rfl ?_
  refine WO_alloc Hvad.zeroValue59 ?_
  refine WO_nil ?_
  refine thn_normal ?_
  refine W_seq ?_
  refine W_region rfl ?_
  refine WO_p (PS_move_int rfl) ?_
  refine WO_p (PS_move_int rfl) ?_
  refine WO_p (PS_move_int rfl) ?_
  refine WO_p (PS_move_int rfl) ?_
  refine WO_p (PS_buildI (k := .u64) (zs := [0, 0, 0, 0]) (ps := [(0, _), (1, _), (2, _), (3, _)]) (L := [_, _, _, _]) Hvad.zeroValue59 Hvad.runUnderlying59 Hvad.sizeOf26 rfl rfl rfl rfl) ?_
  refine WO_alloc Hvad.zeroValue59 ?_
  first | refine WO_storeW Hvad.sizeOf59 rfl (v := .agg _) rfl (Hb.h (by repeat (first | assumption | exact Hb.newY _ _ | refine Hb.alloc ?_ | refine Hb.drew ?_ | refine Hb.ext (by assumption) ?_ | exact Hb.setSameL (by first | omega | (simp only [size_alloc, size_setB, size_drew]; omega)) | exact Hb.setSame (by assumption) | refine Hb.set (by first | omega | (simp only [size_alloc, size_setB, size_drew]; omega)) ?_ ))) rfl (by first | omega | assumption | rfl | decide | exact Nat.le_refl _ | (simp only [size_ic, Value.cells]; omega) | simp) (by first | omega | assumption | rfl | decide | exact Nat.le_refl _ | (simp only [size_ic, Value.cells]; omega) | simp) (by first | exact oneCell_ic | assumption) ?_ | refine WO_store Hvad.sizeOf59 rfl (v := .agg _) rfl (Hb.h (by repeat (first | assumption | exact Hb.newY _ _ | refine Hb.alloc ?_ | refine Hb.drew ?_ | refine Hb.ext (by assumption) ?_ | exact Hb.setSameL (by first | omega | (simp only [size_alloc, size_setB, size_drew]; omega)) | exact Hb.setSame (by assumption) | refine Hb.set (by first | omega | (simp only [size_alloc, size_setB, size_drew]; omega)) ?_ ))) (by first | omega | assumption | rfl | decide | exact Nat.le_refl _ | (simp only [size_ic, Value.cells]; omega) | simp) (by first | omega | assumption | rfl | decide | exact Nat.le_refl _ | (simp only [size_ic, Value.cells]; omega) | simp) (by first | exact oneCell_ic | assumption) ?_
  refine WO_nil ?_
  refine thn_normal ?_
  refine W_seq ?_
  refine W_region rfl ?_
  refine WO_loadA _ Hvad.isAgg59 Hvad.sizeOf59 rfl (Hb.h (by repeat (first | assumption | exact Hb.newY _ _ | refine Hb.alloc ?_ | refine Hb.drew ?_ | refine Hb.ext (by assumption) ?_ | exact Hb.setSameL (by first | omega | (simp only [size_alloc, size_setB, size_drew]; omega)) | exact Hb.setSame (by assumption) | refine Hb.set (by first | omega | (simp only [size_alloc, size_setB, size_drew]; omega)) ?_ ))) (by first | omega | assumption | rfl | decide | exact Nat.le_refl _ | (simp only [size_ic, Value.cells]; omega) | simp) (Xt.h (by first | assumption | exact Xt.whole rfl rfl | exact Xt.whole rfl (by simp only [size_ic, Value.cells]; omega) | exact ⟨rfl⟩)) ?_
  refine WO_call Hvad.call257 (by rfl) (Ret.mono (below_spec W 256 _ hW) ?_)
  rintro _ w1 ⟨hE1, x, q, rfl, hx, hq⟩
  have hz1 := hE1.1
  simp only [size_alloc, size_setB] at hz1
  refine WO_p (PS_move_tuple rfl) ?_
  refine WO_p (PS_extract_int rfl rfl) ?_
  refine WO_p (PS_extract_bool rfl rfl) ?_
  refine WO_p (PS_assign_int rfl) ?_
  refine WO_p (PS_assign_bool rfl) ?_
  refine WO_nil ?_
  refine thn_normal ?_
  refine W_seq ?_
  refine W_seq ?_
  refine W_region rfl ?_
  refine WO_p (PS_move_bool rfl) ?_
  refine WO_p (PS_not rfl) ?_
  refine WO_nil ?_
  refine thn_normal ?_
  refine W_if rfl (fun hb4 => ?_) (fun hb4 => ?_)
  · have hb4p := hb4.h; try simp only [al_ete, al_dfn, Bool.not_eq_true', Bool.not_eq_false', al_ne, Bool.not_not, al_nn] at hb4p
    refine W_seq ?_
    refine W_region rfl ?_
    refine WO_loadA _ Hvad.isAgg59 Hvad.sizeOf59 rfl (Hb.h (by repeat (first | assumption | exact Hb.newY _ _ | refine Hb.alloc ?_ | refine Hb.drew ?_ | refine Hb.ext (by assumption) ?_ | exact Hb.setSameL (by first | omega | (simp only [size_alloc, size_setB, size_drew]; omega)) | exact Hb.setSame (by assumption) | refine Hb.set (by first | omega | (simp only [size_alloc, size_setB, size_drew]; omega)) ?_ ))) (by first | omega | assumption | rfl | decide | exact Nat.le_refl _ | (simp only [size_ic, Value.cells]; omega) | simp) (Xt.h (by first | assumption | exact Xt.whole rfl rfl | exact Xt.whole rfl (by simp only [size_ic, Value.cells]; omega) | exact ⟨rfl⟩)) ?_
    first | refine WO_storeW Hvad.sizeOf59 rfl (v := .agg _) rfl (Hb.h (by repeat (first | assumption | exact Hb.newY _ _ | refine Hb.alloc ?_ | refine Hb.drew ?_ | refine Hb.ext (by assumption) ?_ | exact Hb.setSameL (by first | omega | (simp only [size_alloc, size_setB, size_drew]; omega)) | exact Hb.setSame (by assumption) | refine Hb.set (by first | omega | (simp only [size_alloc, size_setB, size_drew]; omega)) ?_ ))) rfl (by first | omega | assumption | rfl | decide | exact Nat.le_refl _ | (simp only [size_ic, Value.cells]; omega) | simp) (by first | omega | assumption | rfl | decide | exact Nat.le_refl _ | (simp only [size_ic, Value.cells]; omega) | simp) (by first | exact oneCell_ic | assumption) ?_ | refine WO_store Hvad.sizeOf59 rfl (v := .agg _) rfl (Hb.h (by repeat (first | assumption | exact Hb.newY _ _ | refine Hb.alloc ?_ | refine Hb.drew ?_ | refine Hb.ext (by assumption) ?_ | exact Hb.setSameL (by first | omega | (simp only [size_alloc, size_setB, size_drew]; omega)) | exact Hb.setSame (by assumption) | refine Hb.set (by first | omega | (simp only [size_alloc, size_setB, size_drew]; omega)) ?_ ))) (by first | omega | assumption | rfl | decide | exact Nat.le_refl _ | (simp only [size_ic, Value.cells]; omega) | simp) (by first | omega | assumption | rfl | decide | exact Nat.le_refl _ | (simp only [size_ic, Value.cells]; omega) | simp) (by first | exact oneCell_ic | assumption) ?_
    refine WO_nil ?_
    refine thn_normal ?_
    refine W_ret ?_
    refine thn_ret ?_
    refine bodyQ_cell1 Hvad.results259 rfl Hvad.isAgg59 Hvad.sizeOf59 rfl (Hb.h (by repeat (first | assumption | exact Hb.newY _ _ | refine Hb.alloc ?_ | refine Hb.drew ?_ | refine Hb.ext (by assumption) ?_ | exact Hb.setSameL (by first | omega | (simp only [size_alloc, size_setB, size_drew]; omega)) | exact Hb.setSame (by assumption) | refine Hb.set (by first | omega | (simp only [size_alloc, size_setB, size_drew]; omega)) ?_ ))) (by first | omega | assumption | rfl | decide | exact Nat.le_refl _ | (simp only [size_ic, Value.cells]; omega) | simp) ?_
    first
    | exact ⟨(by repeat (first | assumption | exact Ext.refl _ | refine Ext.alloc ?_ _ | refine Ext.drew ?_ | refine Ext.setB ?_ (by first | omega | (simp only [size_alloc, size_setB, size_drew]; omega)) _ | refine Ext.trans ?_ (by assumption))), _, rfl, hF4⟩
    | exact ⟨(by repeat (first | assumption | exact Ext.refl _ | refine Ext.alloc ?_ _ | refine Ext.drew ?_ | refine Ext.setB ?_ (by first | omega | (simp only [size_alloc, size_setB, size_drew]; omega)) _ | refine Ext.trans ?_ (by assumption))), _, rfl, hR⟩
  · have hb4p := hb4.h; try simp only [al_ete, al_dfn, Bool.not_eq_true', Bool.not_eq_false', al_ne, Bool.not_not, al_nn] at hb4p
    have hx256 := hq hb4p
    refine W_skip ?_
    refine thn_normal ?_
    refine W_seq ?_
    refine W_seq ?_
    refine W_region rfl ?_
    refine WO_p (PS_move_int rfl) ?_
    refine WO_p (PS_quo_u64 rfl rfl (by omega) (by omega) (by omega)) ?_
    refine WO_p (PS_assign_int rfl) ?_
    refine WO_nil ?_
    refine thn_normal ?_
    refine W_block ?_
    refine W_loopN (fun m ρ w' => ∃ (i : Int) (R : List Int), Wd R ∧ x / 64 ≤ i ∧ i + m = 4 ∧ Fr [(2, .int .u64 f), (4, .pointer (some ⟨(w.alloc (.cells (Value.agg (ic .u64 W)).cells 59)).heap.size, 0, none⟩)), (6, .pointer (some ⟨((w.alloc (.cells (Value.agg (ic .u64 W)).cells 59)).alloc (.cells (Value.agg (ic .u64 X)).cells 59)).heap.size, 0, none⟩)), (7, .pointer (some ⟨(((w.alloc (.cells (Value.agg (ic .u64 W)).cells 59)).alloc (.cells (Value.agg (ic .u64 X)).cells 59)).alloc (.cells (Value.agg #[.int .u64 0, .int .u64 0, .int .u64 0, .int .u64 0]).cells 59)).heap.size, 0, none⟩)), (8, .int .u64 x), (10, .int .u64 i)] ρ ∧ Ext w w' ∧ Hb w' ((w.alloc (.cells (Value.agg (ic .u64 W)).cells 59)).heap.size) (.cells (ic .u64 X) 59 (0, 0)) ∧ Hb w' (((w.alloc (.cells (Value.agg (ic .u64 W)).cells 59)).alloc (.cells (Value.agg (ic .u64 X)).cells 59)).heap.size) (.cells (ic .u64 [0, 0, 0, 0]) 59 (0, 0)) ∧ Hb w' ((((w.alloc (.cells (Value.agg (ic .u64 W)).cells 59)).alloc (.cells (Value.agg (ic .u64 X)).cells 59)).alloc (.cells (Value.agg #[.int .u64 0, .int .u64 0, .int .u64 0, .int .u64 0]).cells 59)).heap.size) (.cells (ic .u64 R) 59 (0, 0))) (4 - x / 64).toNat ?_ ?_
    · exact ⟨x / 64, [f, f, f, f], hF4, by omega, by omega, ⟨rfl, rfl, rfl, rfl, rfl, rfl, trivial⟩, Ext.trans (Ext.setB (Ext.alloc (Ext.alloc (Ext.alloc (Ext.alloc (Ext.refl w) _) _) _) _) (by simp only [size_alloc]; omega) _) hE1, Hb.ext hE1 (Hb.set (by simp only [size_alloc]; omega) (Hb.alloc (Hb.alloc (Hb.newY _ _)))), Hb.ext hE1 (Hb.set (by simp only [size_alloc]; omega) (Hb.alloc (Hb.newY _ _))), Hb.ext hE1 (Hb.setSame (Hb.newY _ _))⟩
    intro m ρ w2 hI
    obtain ⟨i, R, hR, hi0, him, hF, hE2, hX2, hR0, hV2⟩ := hI
    clear hE1
    have hRl := hR.1
    have hz2 := hV2.lt
    simp only [size_alloc] at hz2
    refine W_env _ hF ?_
    refine W_seq ?_
    refine W_seq ?_
    refine W_region rfl ?_
    refine WO_p (PS_move_int rfl) ?_
    refine WO_p (PS_lss rfl rfl) ?_
    refine WO_nil ?_
    refine thn_normal ?_
    refine W_if rfl (fun hb6 => ?_) (fun hb6 => ?_)
    · have hb6p := hb6.h; try simp only [al_ete, al_dfn, Bool.not_eq_true', Bool.not_eq_false', al_ne, Bool.not_not, al_nn] at hb6p
      have hce : Ce (ic .u64 X) (0 + i.toNat * 1) (.int .u64 (X.getD i.toNat 0)) := ce_ic (by omega)
      have hxb := wd_get hX i.toNat
      refine W_skip ?_
      refine thn_normal ?_
      refine W_seq ?_
      refine W_block ?_
      refine W_seq ?_
      refine W_region rfl ?_
      refine WO_p (PS_move_int rfl) ?_
      refine WO_p (PS_assign_int rfl) ?_
      refine WO_nil ?_
      refine thn_normal ?_
      refine W_seq ?_
      refine W_seq ?_
      refine W_region rfl ?_
      refine WO_p (PS_move_int rfl) ?_
      refine WO_p (PS_lss rfl rfl) ?_
      refine WO_nil ?_
      refine thn_normal ?_
      refine W_if rfl (fun hb8 => ?_) (fun hb8 => ?_)
      · have hb8p := hb8.h; try simp only [al_ete, al_dfn, Bool.not_eq_true', Bool.not_eq_false', al_ne, Bool.not_not, al_nn] at hb8p
        have hce2 : Ce (ic .u64 X) (0 + (i + 1).toNat * 1) (.int .u64 (X.getD (i + 1).toNat 0)) := ce_ic (by omega)
        have hxb2 := wd_get hX (i + 1).toNat
        refine W_region rfl ?_
        refine WO_p (PS_move_int rfl) ?_
        refine WO_p (PS_add_u64n rfl rfl (by omega) (by omega)) ?_
        refine WO_p (PS_indexA Hvad.runUnderlying59 Hvad.sizeOf26 rfl rfl (by omega) (by omega)) ?_
        refine WO_load (.int _ _) Hvad.isAgg26 rfl (Hb.h (by repeat (first | assumption | exact Hb.newY _ _ | refine Hb.alloc ?_ | refine Hb.drew ?_ | refine Hb.ext (by assumption) ?_ | exact Hb.setSameL (by first | omega | (simp only [size_alloc, size_setB, size_drew]; omega)) | exact Hb.setSame (by assumption) | refine Hb.set (by first | omega | (simp only [size_alloc, size_setB, size_drew]; omega)) ?_ ))) (Ce.h (by first | assumption | exact ⟨rfl⟩)) ?_
        refine WO_p (PS_assign_int rfl) ?_
        refine WO_nil ?_
        refine thn_normal ?_
        refine W_region rfl ?_
        refine WO_p (PS_move_int rfl) ?_
        refine WO_p (PS_move_int rfl) ?_
        refine WO_p (PS_quo_u64 rfl rfl (by omega) (by omega) (by omega)) ?_
        refine WO_p (PS_sub_u64n rfl rfl (by omega) (by omega)) ?_
        refine WO_p (PS_move_int rfl) ?_
        refine WO_p (PS_indexA Hvad.runUnderlying59 Hvad.sizeOf26 rfl rfl (by omega) (by omega)) ?_
        refine WO_load (.int _ _) Hvad.isAgg26 rfl (Hb.h (by repeat (first | assumption | exact Hb.newY _ _ | refine Hb.alloc ?_ | refine Hb.drew ?_ | refine Hb.ext (by assumption) ?_ | exact Hb.setSameL (by first | omega | (simp only [size_alloc, size_setB, size_drew]; omega)) | exact Hb.setSame (by assumption) | refine Hb.set (by first | omega | (simp only [size_alloc, size_setB, size_drew]; omega)) ?_ ))) (Ce.h (by first | assumption | exact ⟨rfl⟩)) ?_
        refine WO_p (PS_move_int rfl) ?_
        refine WO_p (PS_rem_u64 rfl rfl (by omega) (by omega)) ?_
        refine WO_p (PS_shr_u64 _ rfl rfl (by omega) rfl) ?_
        refine WO_p (PS_move_int rfl) ?_
        refine WO_p (PS_move_int rfl) ?_
        refine WO_p (PS_rem_u64 rfl rfl (by omega) (by omega)) ?_
        refine WO_p (PS_sub_u64n rfl rfl (by omega) (by omega)) ?_
        refine WO_p (PS_shl_u64 _ rfl rfl (by omega) rfl) ?_
        refine WO_p (PS_or_u64 rfl rfl) ?_
        refine WO_p (PS_indexA Hvad.runUnderlying59 Hvad.sizeOf26 rfl rfl (by omega) (by omega)) ?_
        refine WO_store1 Hvad.sizeOf26 rfl (v := .int _ _) rfl hV2.h rfl (by rw [size_ic]; omega) rfl ?_
        rw [ic_set]
        refine WO_nil ?_
        refine inBlk_normal ?_
        refine thn_normal ?_
        refine W_region rfl ?_
        refine WO_p (PS_move_int rfl) ?_
        refine WO_p (PS_add_u64n rfl rfl (by omega) (by omega)) ?_
        refine WO_p (PS_assign_int rfl) ?_
        refine WO_nil ?_
        refine thn_normal ?_
        exact ⟨m - 1, by omega, i + 1, _, wd_set hR (i - x / 64).toNat (bOr_bd _ _), by omega, by omega, ⟨rfl, rfl, rfl, rfl, rfl, rfl, trivial⟩, Ext.setB hE2 (by simp only [size_alloc]; omega) _, Hb.set (by simp only [size_alloc]; omega) hX2, Hb.set (by simp only [size_alloc]; omega) hR0, Hb.setSame hV2⟩
      · have hb8p := hb8.h; try simp only [al_ete, al_dfn, Bool.not_eq_true', Bool.not_eq_false', al_ne, Bool.not_not, al_nn] at hb8p
        refine W_skip ?_
        refine thn_normal ?_
        refine W_region rfl ?_
        refine WO_p (PS_move_int rfl) ?_
        refine WO_p (PS_move_int rfl) ?_
        refine WO_p (PS_quo_u64 rfl rfl (by omega) (by omega) (by omega)) ?_
        refine WO_p (PS_sub_u64n rfl rfl (by omega) (by omega)) ?_
        refine WO_p (PS_move_int rfl) ?_
        refine WO_p (PS_indexA Hvad.runUnderlying59 Hvad.sizeOf26 rfl rfl (by omega) (by omega)) ?_
        refine WO_load (.int _ _) Hvad.isAgg26 rfl (Hb.h (by repeat (first | assumption | exact Hb.newY _ _ | refine Hb.alloc ?_ | refine Hb.drew ?_ | refine Hb.ext (by assumption) ?_ | exact Hb.setSameL (by first | omega | (simp only [size_alloc, size_setB, size_drew]; omega)) | exact Hb.setSame (by assumption) | refine Hb.set (by first | omega | (simp only [size_alloc, size_setB, size_drew]; omega)) ?_ ))) (Ce.h (by first | assumption | exact ⟨rfl⟩)) ?_
        refine WO_p (PS_move_int rfl) ?_
        refine WO_p (PS_rem_u64 rfl rfl (by omega) (by omega)) ?_
        refine WO_p (PS_shr_u64 _ rfl rfl (by omega) rfl) ?_
        refine WO_p (PS_move_int rfl) ?_
        refine WO_p (PS_move_int rfl) ?_
        refine WO_p (PS_rem_u64 rfl rfl (by omega) (by omega)) ?_
        refine WO_p (PS_sub_u64n rfl rfl (by omega) (by omega)) ?_
        refine WO_p (PS_shl_u64 _ rfl rfl (by omega) rfl) ?_
        refine WO_p (PS_or_u64 rfl rfl) ?_
        refine WO_p (PS_indexA Hvad.runUnderlying59 Hvad.sizeOf26 rfl rfl (by omega) (by omega)) ?_
        refine WO_store1 Hvad.sizeOf26 rfl (v := .int _ _) rfl hV2.h rfl (by rw [size_ic]; omega) rfl ?_
        rw [ic_set]
        refine WO_nil ?_
        refine inBlk_normal ?_
        refine thn_normal ?_
        refine W_region rfl ?_
        refine WO_p (PS_move_int rfl) ?_
        refine WO_p (PS_add_u64n rfl rfl (by omega) (by omega)) ?_
        refine WO_p (PS_assign_int rfl) ?_
        refine WO_nil ?_
        refine thn_normal ?_
        exact ⟨m - 1, by omega, i + 1, _, wd_set hR (i - x / 64).toNat (bOr_bd _ _), by omega, by omega, ⟨rfl, rfl, rfl, rfl, rfl, rfl, trivial⟩, Ext.setB hE2 (by simp only [size_alloc]; omega) _, Hb.set (by simp only [size_alloc]; omega) hX2, Hb.set (by simp only [size_alloc]; omega) hR0, Hb.setSame hV2⟩
    · have hb6p := hb6.h; try simp only [al_ete, al_dfn, Bool.not_eq_true', Bool.not_eq_false', al_ne, Bool.not_not, al_nn] at hb6p
      refine W_exit ?_
      refine thn_exit ?_
      refine thn_exit ?_
      refine inBlk_exit ?_
      refine thn_normal ?_
      refine W_seq ?_
      refine W_region rfl ?_
      refine WO_loadA _ Hvad.isAgg59 Hvad.sizeOf59 rfl (Hb.h (by repeat (first | assumption | exact Hb.newY _ _ | refine Hb.alloc ?_ | refine Hb.drew ?_ | refine Hb.ext (by assumption) ?_ | exact Hb.setSameL (by first | omega | (simp only [size_alloc, size_setB, size_drew]; omega)) | exact Hb.setSame (by assumption) | refine Hb.set (by first | omega | (simp only [size_alloc, size_setB, size_drew]; omega)) ?_ ))) (by first | omega | assumption | rfl | decide | exact Nat.le_refl _ | (simp only [size_ic, Value.cells]; omega) | simp) (Xt.h (by first | assumption | exact Xt.whole rfl rfl | exact Xt.whole rfl (by simp only [size_ic, Value.cells]; omega) | exact ⟨rfl⟩)) ?_
      first | refine WO_storeW Hvad.sizeOf59 rfl (v := .agg _) rfl (Hb.h (by repeat (first | assumption | exact Hb.newY _ _ | refine Hb.alloc ?_ | refine Hb.drew ?_ | refine Hb.ext (by assumption) ?_ | exact Hb.setSameL (by first | omega | (simp only [size_alloc, size_setB, size_drew]; omega)) | exact Hb.setSame (by assumption) | refine Hb.set (by first | omega | (simp only [size_alloc, size_setB, size_drew]; omega)) ?_ ))) rfl (by first | omega | assumption | rfl | decide | exact Nat.le_refl _ | (simp only [size_ic, Value.cells]; omega) | simp) (by first | omega | assumption | rfl | decide | exact Nat.le_refl _ | (simp only [size_ic, Value.cells]; omega) | simp) (by first | exact oneCell_ic | assumption) ?_ | refine WO_store Hvad.sizeOf59 rfl (v := .agg _) rfl (Hb.h (by repeat (first | assumption | exact Hb.newY _ _ | refine Hb.alloc ?_ | refine Hb.drew ?_ | refine Hb.ext (by assumption) ?_ | exact Hb.setSameL (by first | omega | (simp only [size_alloc, size_setB, size_drew]; omega)) | exact Hb.setSame (by assumption) | refine Hb.set (by first | omega | (simp only [size_alloc, size_setB, size_drew]; omega)) ?_ ))) (by first | omega | assumption | rfl | decide | exact Nat.le_refl _ | (simp only [size_ic, Value.cells]; omega) | simp) (by first | omega | assumption | rfl | decide | exact Nat.le_refl _ | (simp only [size_ic, Value.cells]; omega) | simp) (by first | exact oneCell_ic | assumption) ?_
      refine WO_nil ?_
      refine thn_normal ?_
      refine W_ret ?_
      refine bodyQ_cell1 Hvad.results259 rfl Hvad.isAgg59 Hvad.sizeOf59 rfl (Hb.h (by repeat (first | assumption | exact Hb.newY _ _ | refine Hb.alloc ?_ | refine Hb.drew ?_ | refine Hb.ext (by assumption) ?_ | exact Hb.setSameL (by first | omega | (simp only [size_alloc, size_setB, size_drew]; omega)) | exact Hb.setSame (by assumption) | refine Hb.set (by first | omega | (simp only [size_alloc, size_setB, size_drew]; omega)) ?_ ))) (by first | omega | assumption | rfl | decide | exact Nat.le_refl _ | (simp only [size_ic, Value.cells]; omega) | simp) ?_
      first
      | exact ⟨(by repeat (first | assumption | exact Ext.refl _ | refine Ext.alloc ?_ _ | refine Ext.drew ?_ | refine Ext.setB ?_ (by first | omega | (simp only [size_alloc, size_setB, size_drew]; omega)) _ | refine Ext.trans ?_ (by assumption))), _, rfl, hF4⟩
      | exact ⟨(by repeat (first | assumption | exact Ext.refl _ | refine Ext.alloc ?_ _ | refine Ext.drew ?_ | refine Ext.setB ?_ (by first | omega | (simp only [size_alloc, size_setB, size_drew]; omega)) _ | refine Ext.trans ?_ (by assumption))), _, rfl, hR⟩

set_option maxRecDepth 10000 in
theorem shr_spec (W X : List Int) (w : World) (hW : Wd W) (hX : Wd X) : Ret Hvad.prog 186 #[.agg (ic .u64 W), .agg (ic .u64 X)] w fun u w' => Ext w w' ∧ ∃ R, u = .agg (ic .u64 R) ∧ Wd R := by
  have hWl := hW.1
  have hXl := hX.1
  refine Ret_of_W Hvad.func186 rfl rfl ?_
  refine W_seq ?_
  refine W_region rfl ?_
  refine WO_box (.agg _) rfl ?_
  refine WO_box (.agg _) rfl ?_
  refine WO_alloc Hvad.zeroValue59 ?_
  refine WO_nil ?_
  refine thn_normal ?_
  refine W_seq ?_
  refine W_region rfl ?_
  refine WO_loadA _ Hvad.isAgg59 Hvad.sizeOf59 rfl (Hb.h (by repeat (first | assumption | exact Hb.newY _ _ | refine Hb.alloc ?_ | refine Hb.drew ?_ | refine Hb.ext (by assumption) ?_ | exact Hb.setSameL (by first | omega | (simp only [size_alloc, size_setB, size_drew]; omega)) | exact Hb.setSame (by assumption) | refine Hb.set (by first | omega | (simp only [size_alloc, size_setB, size_drew]; omega)) ?_ ))) (by first | omega | assumption | rfl | decide | exact Nat.le_refl _ | (simp only [size_ic, Value.cells]; omega) | simp) (Xt.h (by first | assumption | exact Xt.whole rfl rfl | exact Xt.whole rfl (by simp only [size_ic, Value.cells]; omega) | exact ⟨rfl⟩)) ?_
  refine WO_loadA _ Hvad.isAgg59 Hvad.sizeOf59 rfl (Hb.h (by repeat (first | assumption | exact Hb.newY _ _ | refine Hb.alloc ?_ | refine Hb.drew ?_ | refine Hb.ext (by assumption) ?_ | exact Hb.setSameL (by first | omega | (simp only [size_alloc, size_setB, size_drew]; omega)) | exact Hb.setSame (by assumption) | refine Hb.set (by first | omega | (simp only [size_alloc, size_setB, size_drew]; omega)) ?_ ))) (by first | omega | assumption | rfl | decide | exact Nat.le_refl _ | (simp only [size_ic, Value.cells]; omega) | simp) (Xt.h (by first | assumption | exact Xt.whole rfl rfl | exact Xt.whole rfl (by simp only [size_ic, Value.cells]; omega) | exact ⟨rfl⟩)) ?_
  refine WO_call Hvad.call259 (by rfl) (Ret.mono (down_spec _ _ _ _ (by assumption) (by assumption) (by omega)) ?_)
  rintro _ w259_0 ⟨hE259_0, R259_0, rfl, hR259_0⟩
  have hz259_0 := hE259_0.1
  try simp only [size_alloc, size_setB, size_drew] at hz259_0
  have hl259_0 := hR259_0.1
  first | refine WO_storeW Hvad.sizeOf59 rfl (v := .agg _) rfl (Hb.h (by repeat (first | assumption | exact Hb.newY _ _ | refine Hb.alloc ?_ | refine Hb.drew ?_ | refine Hb.ext (by assumption) ?_ | exact Hb.setSameL (by first | omega | (simp only [size_alloc, size_setB, size_drew]; omega)) | exact Hb.setSame (by assumption) | refine Hb.set (by first | omega | (simp only [size_alloc, size_setB, size_drew]; omega)) ?_ ))) rfl (by first | omega | assumption | rfl | decide | exact Nat.le_refl _ | (simp only [size_ic, Value.cells]; omega) | simp) (by first | omega | assumption | rfl | decide | exact Nat.le_refl _ | (simp only [size_ic, Value.cells]; omega) | simp) (by first | exact oneCell_ic | assumption) ?_ | refine WO_store Hvad.sizeOf59 rfl (v := .agg _) rfl (Hb.h (by repeat (first | assumption | exact Hb.newY _ _ | refine Hb.alloc ?_ | refine Hb.drew ?_ | refine Hb.ext (by assumption) ?_ | exact Hb.setSameL (by first | omega | (simp only [size_alloc, size_setB, size_drew]; omega)) | exact Hb.setSame (by assumption) | refine Hb.set (by first | omega | (simp only [size_alloc, size_setB, size_drew]; omega)) ?_ ))) (by first | omega | assumption | rfl | decide | exact Nat.le_refl _ | (simp only [size_ic, Value.cells]; omega) | simp) (by first | omega | assumption | rfl | decide | exact Nat.le_refl _ | (simp only [size_ic, Value.cells]; omega) | simp) (by first | exact oneCell_ic | assumption) ?_
  refine WO_nil ?_
  refine thn_normal ?_
  refine W_ret ?_
  refine bodyQ_cell1 Hvad.results186 rfl Hvad.isAgg59 Hvad.sizeOf59 rfl (Hb.h (by repeat (first | assumption | exact Hb.newY _ _ | refine Hb.alloc ?_ | refine Hb.drew ?_ | refine Hb.ext (by assumption) ?_ | exact Hb.setSameL (by first | omega | (simp only [size_alloc, size_setB, size_drew]; omega)) | exact Hb.setSame (by assumption) | refine Hb.set (by first | omega | (simp only [size_alloc, size_setB, size_drew]; omega)) ?_ ))) (by first | omega | assumption | rfl | decide | exact Nat.le_refl _ | (simp only [size_ic, Value.cells]; omega) | simp) ?_
  exact ⟨(by repeat (first | assumption | exact Ext.refl _ | refine Ext.alloc ?_ _ | refine Ext.drew ?_ | refine Ext.setB ?_ (by first | omega | (simp only [size_alloc, size_setB, size_drew]; omega)) _ | refine Ext.trans ?_ (by assumption))), _, rfl, by assumption⟩

end Go.Proofs.YgvadwGreat
