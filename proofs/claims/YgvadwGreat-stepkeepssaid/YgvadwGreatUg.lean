import Derived.Test.YgvadwGreatUf
namespace Go.Proofs.YgvadwGreat
set_option linter.unusedSimpArgs false
set_option linter.unusedVariables false

set_option maxRecDepth 10000 in
set_option maxHeartbeats 2000000 in
theorem exp_spec (W X : List Int) (w : World) (hW : Wd W) (hX : Wd X) : Ret Hvad.prog 173 #[.agg (ic .u64 W), .agg (ic .u64 X)] w fun u w' => Ext w w' ∧ ∃ R, u = .agg (ic .u64 R) ∧ Wd R := by
  have hWl := hW.1
  have hXl := hX.1
  have h1d : Wd [1, 0, 0, 0] := wd1 (by decide)
  refine Ret_of_W Hvad.func173 rfl rfl ?_
  refine W_seq ?_
  refine W_region rfl ?_
  refine WO_box (.agg _) rfl ?_
  refine WO_box (.agg _) rfl ?_
  refine WO_alloc Hvad.zeroValue59 ?_
  refine WO_nil ?_
  refine thn_normal ?_
  refine W_seq ?_
  refine W_region rfl ?_
  refine WO_p (PS_buildI (k := .u64) (zs := [0, 0, 0, 0]) (ps := [(0, _)]) (L := [_, 0, 0, 0]) Hvad.zeroValue59 Hvad.runUnderlying59 Hvad.sizeOf26 rfl rfl rfl rfl) ?_
  refine WO_alloc Hvad.zeroValue59 ?_
  first | refine WO_storeW Hvad.sizeOf59 rfl (v := .agg _) rfl (Hb.h (by repeat (first | assumption | exact Hb.newY _ _ | refine Hb.alloc ?_ | refine Hb.drew ?_ | refine Hb.ext (by assumption) ?_ | exact Hb.setSameL (by first | omega | (simp only [size_alloc, size_setB, size_drew]; omega)) | exact Hb.setSame (by assumption) | refine Hb.set (by first | omega | (simp only [size_alloc, size_setB, size_drew]; omega)) ?_ ))) rfl (by first | omega | assumption | rfl | decide | exact Nat.le_refl _ | (simp only [size_ic, Value.cells]; omega) | simp) (by first | omega | assumption | rfl | decide | exact Nat.le_refl _ | (simp only [size_ic, Value.cells]; omega) | simp) (by first | exact oneCell_ic | assumption) ?_ | refine WO_store Hvad.sizeOf59 rfl (v := .agg _) rfl (Hb.h (by repeat (first | assumption | exact Hb.newY _ _ | refine Hb.alloc ?_ | refine Hb.drew ?_ | refine Hb.ext (by assumption) ?_ | exact Hb.setSameL (by first | omega | (simp only [size_alloc, size_setB, size_drew]; omega)) | exact Hb.setSame (by assumption) | refine Hb.set (by first | omega | (simp only [size_alloc, size_setB, size_drew]; omega)) ?_ ))) (by first | omega | assumption | rfl | decide | exact Nat.le_refl _ | (simp only [size_ic, Value.cells]; omega) | simp) (by first | omega | assumption | rfl | decide | exact Nat.le_refl _ | (simp only [size_ic, Value.cells]; omega) | simp) (by first | exact oneCell_ic | assumption) ?_
  refine WO_nil ?_
  refine thn_normal ?_
  refine W_seq ?_
  refine W_region rfl ?_
  refine WO_loadA _ Hvad.isAgg59 Hvad.sizeOf59 rfl (Hb.h (by repeat (first | assumption | exact Hb.newY _ _ | refine Hb.alloc ?_ | refine Hb.drew ?_ | refine Hb.ext (by assumption) ?_ | exact Hb.setSameL (by first | omega | (simp only [size_alloc, size_setB, size_drew]; omega)) | exact Hb.setSame (by assumption) | refine Hb.set (by first | omega | (simp only [size_alloc, size_setB, size_drew]; omega)) ?_ ))) (by first | omega | assumption | rfl | decide | exact Nat.le_refl _ | (simp only [size_ic, Value.cells]; omega) | simp) (Xt.h (by first | assumption | exact Xt.whole rfl rfl | exact Xt.whole rfl (by simp only [size_ic, Value.cells]; omega) | exact ⟨rfl⟩)) ?_
  refine WO_call Hvad.call148 (by rfl) (Ret.mono (limbs_spec X _ hX) ?_)
  rintro _ w1 ⟨hE1, n, rfl, hn4, hnz⟩
  have hz1 := hE1.1
  simp only [size_alloc, size_setB] at hz1
  have hA1 : Hb w1 w.heap.size (.cells (ic .u64 W) 59 (0, 0)) := Hb.ext hE1 (Hb.set (by simp only [size_alloc, size_setB]; omega) (Hb.alloc (Hb.alloc (Hb.alloc (Hb.newY _ _)))))
  have hX1 : Hb w1 ((w.alloc (.cells (Value.agg (ic .u64 W)).cells 59)).heap.size) (.cells (ic .u64 X) 59 (0, 0)) := Hb.ext hE1 (Hb.set (by simp only [size_alloc, size_setB]; omega) (Hb.alloc (Hb.alloc (Hb.newY _ _))))
  have hR1 : Hb w1 (((w.alloc (.cells (Value.agg (ic .u64 W)).cells 59)).alloc (.cells (Value.agg (ic .u64 X)).cells 59)).heap.size) (.cells (ic .u64 [0, 0, 0, 0]) 59 (0, 0)) := Hb.ext hE1 (Hb.set (by simp only [size_alloc, size_setB]; omega) (Hb.alloc (Hb.newY _ _)))
  have hP1 : Hb w1 ((((w.alloc (.cells (Value.agg (ic .u64 W)).cells 59)).alloc (.cells (Value.agg (ic .u64 X)).cells 59)).alloc (.cells (Value.agg #[.int .u64 0, .int .u64 0, .int .u64 0, .int .u64 0]).cells 59)).heap.size) (.cells (ic .u64 [1, 0, 0, 0]) 59 (0, 0)) := Hb.ext hE1 (Hb.setSame (Hb.newY _ _))
  replace hE1 : Ext w w1 := Ext.trans (Ext.setB (Ext.alloc (Ext.alloc (Ext.alloc (Ext.alloc (Ext.refl w) _) _) _) _) (by simp only [size_alloc, size_setB]; omega) _) hE1
  refine WO_p (PS_assign_int rfl) ?_
  refine WO_nil ?_
  refine thn_normal ?_
  refine W_seq ?_
  refine W_seq ?_
  refine W_region rfl ?_
  refine WO_p (PS_move_int rfl) ?_
  refine WO_p (PS_eql rfl rfl) ?_
  refine WO_nil ?_
  refine thn_normal ?_
  refine W_if rfl (fun hb3 => ?_) (fun hb3 => ?_)
  · have hb3p := hb3.h; try simp only [al_ete, al_dfn, Bool.not_eq_true', Bool.not_eq_false', al_ne, Bool.not_not, al_nn] at hb3p
    refine W_seq ?_
    refine W_region rfl ?_
    refine WO_loadA _ Hvad.isAgg59 Hvad.sizeOf59 rfl (Hb.h (by repeat (first | assumption | exact Hb.newY _ _ | refine Hb.alloc ?_ | refine Hb.drew ?_ | refine Hb.ext (by assumption) ?_ | exact Hb.setSameL (by first | omega | (simp only [size_alloc, size_setB, size_drew]; omega)) | exact Hb.setSame (by assumption) | refine Hb.set (by first | omega | (simp only [size_alloc, size_setB, size_drew]; omega)) ?_ ))) (by first | omega | assumption | rfl | decide | exact Nat.le_refl _ | (simp only [size_ic, Value.cells]; omega) | simp) (Xt.h (by first | assumption | exact Xt.whole rfl rfl | exact Xt.whole rfl (by simp only [size_ic, Value.cells]; omega) | exact ⟨rfl⟩)) ?_
    first | refine WO_storeW Hvad.sizeOf59 rfl (v := .agg _) rfl (Hb.h (by repeat (first | assumption | exact Hb.newY _ _ | refine Hb.alloc ?_ | refine Hb.drew ?_ | refine Hb.ext (by assumption) ?_ | exact Hb.setSameL (by first | omega | (simp only [size_alloc, size_setB, size_drew]; omega)) | exact Hb.setSame (by assumption) | refine Hb.set (by first | omega | (simp only [size_alloc, size_setB, size_drew]; omega)) ?_ ))) rfl (by first | omega | assumption | rfl | decide | exact Nat.le_refl _ | (simp only [size_ic, Value.cells]; omega) | simp) (by first | omega | assumption | rfl | decide | exact Nat.le_refl _ | (simp only [size_ic, Value.cells]; omega) | simp) (by first | exact oneCell_ic | assumption) ?_ | refine WO_store Hvad.sizeOf59 rfl (v := .agg _) rfl (Hb.h (by repeat (first | assumption | exact Hb.newY _ _ | refine Hb.alloc ?_ | refine Hb.drew ?_ | refine Hb.ext (by assumption) ?_ | exact Hb.setSameL (by first | omega | (simp only [size_alloc, size_setB, size_drew]; omega)) | exact Hb.setSame (by assumption) | refine Hb.set (by first | omega | (simp only [size_alloc, size_setB, size_drew]; omega)) ?_ ))) (by first | omega | assumption | rfl | decide | exact Nat.le_refl _ | (simp only [size_ic, Value.cells]; omega) | simp) (by first | omega | assumption | rfl | decide | exact Nat.le_refl _ | (simp only [size_ic, Value.cells]; omega) | simp) (by first | exact oneCell_ic | assumption) ?_
    refine WO_nil ?_
    refine thn_normal ?_
    refine W_ret ?_
    refine thn_ret ?_
    refine bodyQ_cell1 Hvad.results173 rfl Hvad.isAgg59 Hvad.sizeOf59 rfl (Hb.h (by repeat (first | assumption | exact Hb.newY _ _ | refine Hb.alloc ?_ | refine Hb.drew ?_ | refine Hb.ext (by assumption) ?_ | exact Hb.setSameL (by first | omega | (simp only [size_alloc, size_setB, size_drew]; omega)) | exact Hb.setSame (by assumption) | refine Hb.set (by first | omega | (simp only [size_alloc, size_setB, size_drew]; omega)) ?_ ))) (by first | omega | assumption | rfl | decide | exact Nat.le_refl _ | (simp only [size_ic, Value.cells]; omega) | simp) ?_
    first
    | exact ⟨(by repeat (first | assumption | exact Ext.refl _ | refine Ext.alloc ?_ _ | refine Ext.drew ?_ | refine Ext.setB ?_ (by first | omega | (simp only [size_alloc, size_setB, size_drew]; omega)) _ | refine Ext.trans ?_ (by assumption))), _, rfl, h1d⟩
    | exact ⟨(by repeat (first | assumption | exact Ext.refl _ | refine Ext.alloc ?_ _ | refine Ext.drew ?_ | refine Ext.setB ?_ (by first | omega | (simp only [size_alloc, size_setB, size_drew]; omega)) _ | refine Ext.trans ?_ (by assumption))), _, rfl, Wd0⟩
    | exact ⟨(by repeat (first | assumption | exact Ext.refl _ | refine Ext.alloc ?_ _ | refine Ext.drew ?_ | refine Ext.setB ?_ (by first | omega | (simp only [size_alloc, size_setB, size_drew]; omega)) _ | refine Ext.trans ?_ (by assumption))), _, rfl, ofV_wd _⟩
  · have hb3p := hb3.h; try simp only [al_ete, al_dfn, Bool.not_eq_true', Bool.not_eq_false', al_ne, Bool.not_not, al_nn] at hb3p
    have hce : Ce (ic .u64 X) (0 + ((n:Int) - 1).toNat * 1) (.int .u64 (X.getD ((n:Int) - 1).toNat 0)) := ce_ic (by omega)
    have hxb := wd_get hX ((n:Int) - 1).toNat
    refine W_skip ?_
    refine thn_normal ?_
    refine W_seq ?_
    refine W_region rfl ?_
    refine WO_p (PS_move_int rfl) ?_
    first | refine WO_p (PS_sub_u8n rfl rfl (by omega) (by omega)) ?_ | refine WO_p (PS_sub_u8w rfl rfl) ?_
    first | refine WO_p (PS_conv_i64n Hvad.runUnderlying5 Hvad.runUnderlying3 rfl (by omega) (by omega)) ?_ | refine WO_p (PS_conv_i64w Hvad.runUnderlying5 Hvad.runUnderlying3 rfl) ?_
    first | refine WO_p (PS_mul_i64n rfl rfl (by omega) (by omega)) ?_ | refine WO_p (PS_mul_i64w rfl rfl) ?_
    refine WO_p (PS_move_int rfl) ?_
    first | refine WO_p (PS_sub_u8n rfl rfl (by omega) (by omega)) ?_ | refine WO_p (PS_sub_u8w rfl rfl) ?_
    refine WO_p (PS_indexA Hvad.runUnderlying59 Hvad.sizeOf26 rfl rfl (by omega) (by omega)) ?_
    refine WO_load (.int _ _) Hvad.isAgg26 rfl (Hb.h (by repeat (first | assumption | exact Hb.newY _ _ | refine Hb.alloc ?_ | refine Hb.drew ?_ | refine Hb.ext (by assumption) ?_ | exact Hb.setSameL (by first | omega | (simp only [size_alloc, size_setB, size_drew]; omega)) | exact Hb.setSame (by assumption) | refine Hb.set (by first | omega | (simp only [size_alloc, size_setB, size_drew]; omega)) ?_ ))) (Ce.h (by first | assumption | exact ⟨rfl⟩)) ?_
    refine WO_call Hvad.call149 (by rfl) (Ret.mono (len64_spec _ _ (by omega)) ?_)
    rintro _ _ ⟨rfl, n149_3, rfl, hn1149_3, hL149_3⟩
    first | refine WO_p (PS_add_i64n rfl rfl (by omega) (by omega)) ?_ | refine WO_p (PS_add_i64w rfl rfl) ?_
    first | refine WO_p (PS_sub_i64n rfl rfl (by omega) (by omega)) ?_ | refine WO_p (PS_sub_i64w rfl rfl) ?_
    refine WO_p (PS_assign_int rfl) ?_
    refine WO_nil ?_
    refine thn_normal ?_
    refine W_seq ?_
    refine W_seq ?_
    refine W_region rfl ?_
    refine WO_p (PS_assign_int rfl) ?_
    refine WO_nil ?_
    refine thn_normal ?_
    refine W_block ?_
    refine W_loopN (fun m ρ w' => ∃ (k l : Int) (A P : List Int), Wd A ∧ Wd P ∧ 0 ≤ k ∧ l - k ≤ m ∧ l ≤ 255 ∧ Fr [(2, .pointer (some ⟨w.heap.size, 0, none⟩)), (3, .pointer (some ⟨(w.alloc (.cells (Value.agg (ic .u64 W)).cells 59)).heap.size, 0, none⟩)), (4, .pointer (some ⟨((w.alloc (.cells (Value.agg (ic .u64 W)).cells 59)).alloc (.cells (Value.agg (ic .u64 X)).cells 59)).heap.size, 0, none⟩)), (5, .pointer (some ⟨(((w.alloc (.cells (Value.agg (ic .u64 W)).cells 59)).alloc (.cells (Value.agg (ic .u64 X)).cells 59)).alloc (.cells (Value.agg #[.int .u64 0, .int .u64 0, .int .u64 0, .int .u64 0]).cells 59)).heap.size, 0, none⟩)), (7, .int .i64 l), (8, .int .i64 k)] ρ ∧ Ext w w' ∧ Hb w' w.heap.size (.cells (ic .u64 A) 59 (0, 0)) ∧ Hb w' ((w.alloc (.cells (Value.agg (ic .u64 W)).cells 59)).heap.size) (.cells (ic .u64 X) 59 (0, 0)) ∧ Hb w' (((w.alloc (.cells (Value.agg (ic .u64 W)).cells 59)).alloc (.cells (Value.agg (ic .u64 X)).cells 59)).heap.size) (.cells (ic .u64 [0, 0, 0, 0]) 59 (0, 0)) ∧ Hb w' ((((w.alloc (.cells (Value.agg (ic .u64 W)).cells 59)).alloc (.cells (Value.agg (ic .u64 X)).cells 59)).alloc (.cells (Value.agg #[.int .u64 0, .int .u64 0, .int .u64 0, .int .u64 0]).cells 59)).heap.size) (.cells (ic .u64 P) 59 (0, 0))) 256 ?_ ?_
    · exact ⟨0, _, W, [1, 0, 0, 0], hW, h1d, by omega, by omega, by omega, ⟨rfl, rfl, rfl, rfl, rfl, rfl, trivial⟩, hE1, hA1, hX1, hR1, hP1⟩
    intro m ρ w2 hI
    obtain ⟨k, l, A, P, hA, hP, hk0, hkl, hl, hF, hE2, hA2, hX2, hR2, hP2⟩ := hI
    clear hE1 hA1 hX1 hR1 hP1
    have hAl := hA.1
    have hPl := hP.1
    have hol := (ofV_wd (wv P * wv A % 115792089237316195423570985008687907853269984665640564039457584007913129639936)).1
    have hz2 := hP2.lt
    simp only [size_alloc, size_setB] at hz2
    refine W_env _ hF ?_
    refine W_seq ?_
    refine W_seq ?_
    refine W_region rfl ?_
    refine WO_p (PS_move_int rfl) ?_
    refine WO_p (PS_move_int rfl) ?_
    refine WO_p (PS_lss rfl rfl) ?_
    refine WO_nil ?_
    refine thn_normal ?_
    refine W_if rfl (fun hb6 => ?_) (fun hb6 => ?_)
    · have hb6p := hb6.h; try simp only [al_ete, al_dfn, Bool.not_eq_true', Bool.not_eq_false', al_ne, Bool.not_not, al_nn] at hb6p
      have hce : Ce (ic .u64 X) (0 + (k / 64).toNat * 1) (.int .u64 (X.getD (k / 64).toNat 0)) := ce_ic (by omega)
      have hxb := wd_get hX (k / 64).toNat
      refine W_skip ?_
      refine thn_normal ?_
      refine W_seq ?_
      refine W_block ?_
      refine W_seq ?_
      refine W_seq ?_
      refine W_region rfl ?_
      refine WO_p (PS_move_int rfl) ?_
      refine WO_p (PS_quo_i64 rfl rfl (by omega) (by omega) (by omega)) ?_
      refine WO_p (PS_indexA Hvad.runUnderlying59 Hvad.sizeOf26 rfl rfl (by omega) (by omega)) ?_
      refine WO_load (.int _ _) Hvad.isAgg26 rfl (Hb.h (by repeat (first | assumption | exact Hb.newY _ _ | refine Hb.alloc ?_ | refine Hb.drew ?_ | refine Hb.ext (by assumption) ?_ | exact Hb.setSameL (by first | omega | (simp only [size_alloc, size_setB, size_drew]; omega)) | exact Hb.setSame (by assumption) | refine Hb.set (by first | omega | (simp only [size_alloc, size_setB, size_drew]; omega)) ?_ ))) (Ce.h (by first | assumption | exact ⟨rfl⟩)) ?_
      refine WO_p (PS_move_int rfl) ?_
      refine WO_p (PS_rem_i64 rfl rfl (by omega) (by omega)) ?_
      refine WO_p (PS_shr_u64 _ rfl rfl (by omega) rfl) ?_
      refine WO_p (PS_and_u64 rfl rfl) ?_
      refine WO_p (PS_neq rfl rfl) ?_
      refine WO_nil ?_
      refine thn_normal ?_
      refine W_if rfl (fun hb8 => ?_) (fun hb8 => ?_)
      · have hb8p := hb8.h; try simp only [al_ete, al_dfn, Bool.not_eq_true', Bool.not_eq_false', al_ne, Bool.not_not, al_nn] at hb8p
        refine W_region rfl ?_
        refine WO_loadA _ Hvad.isAgg59 Hvad.sizeOf59 rfl (Hb.h (by repeat (first | assumption | exact Hb.newY _ _ | refine Hb.alloc ?_ | refine Hb.drew ?_ | refine Hb.ext (by assumption) ?_ | exact Hb.setSameL (by first | omega | (simp only [size_alloc, size_setB, size_drew]; omega)) | exact Hb.setSame (by assumption) | refine Hb.set (by first | omega | (simp only [size_alloc, size_setB, size_drew]; omega)) ?_ ))) (by first | omega | assumption | rfl | decide | exact Nat.le_refl _ | (simp only [size_ic, Value.cells]; omega) | simp) (Xt.h (by first | assumption | exact Xt.whole rfl rfl | exact Xt.whole rfl (by simp only [size_ic, Value.cells]; omega) | exact ⟨rfl⟩)) ?_
        refine WO_loadA _ Hvad.isAgg59 Hvad.sizeOf59 rfl (Hb.h (by repeat (first | assumption | exact Hb.newY _ _ | refine Hb.alloc ?_ | refine Hb.drew ?_ | refine Hb.ext (by assumption) ?_ | exact Hb.setSameL (by first | omega | (simp only [size_alloc, size_setB, size_drew]; omega)) | exact Hb.setSame (by assumption) | refine Hb.set (by first | omega | (simp only [size_alloc, size_setB, size_drew]; omega)) ?_ ))) (by first | omega | assumption | rfl | decide | exact Nat.le_refl _ | (simp only [size_ic, Value.cells]; omega) | simp) (Xt.h (by first | assumption | exact Xt.whole rfl rfl | exact Xt.whole rfl (by simp only [size_ic, Value.cells]; omega) | exact ⟨rfl⟩)) ?_
        refine WO_call Hvad.call32 (by rfl) (Ret.mono (mul_spec P A _ hP hA) ?_)
        rintro _ w3 ⟨rfl, hE3⟩
        have hz3 := hE3.1
        refine WO_storeW Hvad.sizeOf59 rfl (v := .agg _) rfl (Hb.h (Hb.ext hE3 hP2)) rfl (by first | omega | assumption | rfl | decide | exact Nat.le_refl _ | (simp only [size_ic, Value.cells]; omega) | simp) (by first | omega | assumption | rfl | decide | exact Nat.le_refl _ | (simp only [size_ic, Value.cells]; omega) | simp) (by first | exact oneCell_ic | assumption) ?_
        obtain ⟨P5, hP5, hPb⟩ : ∃ P5, Wd P5 ∧ Hb (setB w3 ((((w.alloc (.cells (Value.agg (ic .u64 W)).cells 59)).alloc (.cells (Value.agg (ic .u64 X)).cells 59)).alloc (.cells (Value.agg #[.int .u64 0, .int .u64 0, .int .u64 0, .int .u64 0]).cells 59)).heap.size) (.cells (ic .u64 (ofV (wv P * wv A % 115792089237316195423570985008687907853269984665640564039457584007913129639936))) 59 (0, 0))) ((((w.alloc (.cells (Value.agg (ic .u64 W)).cells 59)).alloc (.cells (Value.agg (ic .u64 X)).cells 59)).alloc (.cells (Value.agg #[.int .u64 0, .int .u64 0, .int .u64 0, .int .u64 0]).cells 59)).heap.size) (.cells (ic .u64 P5) 59 (0, 0)) := ⟨_, ofV_wd _, Hb.setSame (Hb.ext hE3 hP2)⟩
        refine WO_nil ?_
        refine thn_normal ?_
        refine W_seq ?_
        refine W_region rfl ?_
        refine WO_loadA _ Hvad.isAgg59 Hvad.sizeOf59 rfl (Hb.h (by repeat (first | assumption | exact Hb.newY _ _ | refine Hb.alloc ?_ | refine Hb.drew ?_ | refine Hb.ext (by assumption) ?_ | exact Hb.setSameL (by first | omega | (simp only [size_alloc, size_setB, size_drew]; omega)) | exact Hb.setSame (by assumption) | refine Hb.set (by first | omega | (simp only [size_alloc, size_setB, size_drew]; omega)) ?_ ))) (by first | omega | assumption | rfl | decide | exact Nat.le_refl _ | (simp only [size_ic, Value.cells]; omega) | simp) (Xt.h (by first | assumption | exact Xt.whole rfl rfl | exact Xt.whole rfl (by simp only [size_ic, Value.cells]; omega) | exact ⟨rfl⟩)) ?_
        refine WO_call Hvad.call256 (by rfl) (Ret.mono (square_spec A _ hA) ?_)
        rintro _ w4 ⟨hE4, A4, rfl, hA4⟩
        have hz4 := hE4.1
        try simp only [size_setB] at hz4
        have hAl4 := hA4.1
        first | refine WO_storeW Hvad.sizeOf59 rfl (v := .agg _) rfl (Hb.h (by repeat (first | assumption | exact Hb.newY _ _ | refine Hb.alloc ?_ | refine Hb.drew ?_ | refine Hb.ext (by assumption) ?_ | exact Hb.setSameL (by first | omega | (simp only [size_alloc, size_setB, size_drew]; omega)) | exact Hb.setSame (by assumption) | refine Hb.set (by first | omega | (simp only [size_alloc, size_setB, size_drew]; omega)) ?_ ))) rfl (by first | omega | assumption | rfl | decide | exact Nat.le_refl _ | (simp only [size_ic, Value.cells]; omega) | simp) (by first | omega | assumption | rfl | decide | exact Nat.le_refl _ | (simp only [size_ic, Value.cells]; omega) | simp) (by first | exact oneCell_ic | assumption) ?_ | refine WO_store Hvad.sizeOf59 rfl (v := .agg _) rfl (Hb.h (by repeat (first | assumption | exact Hb.newY _ _ | refine Hb.alloc ?_ | refine Hb.drew ?_ | refine Hb.ext (by assumption) ?_ | exact Hb.setSameL (by first | omega | (simp only [size_alloc, size_setB, size_drew]; omega)) | exact Hb.setSame (by assumption) | refine Hb.set (by first | omega | (simp only [size_alloc, size_setB, size_drew]; omega)) ?_ ))) (by first | omega | assumption | rfl | decide | exact Nat.le_refl _ | (simp only [size_ic, Value.cells]; omega) | simp) (by first | omega | assumption | rfl | decide | exact Nat.le_refl _ | (simp only [size_ic, Value.cells]; omega) | simp) (by first | exact oneCell_ic | assumption) ?_
        refine WO_nil ?_
        refine thn_normal ?_
        refine W_seq ?_
        refine W_region rfl ?_
        refine WO_loadA _ Hvad.isAgg59 Hvad.sizeOf59 rfl (Hb.h (by repeat (first | assumption | exact Hb.newY _ _ | refine Hb.alloc ?_ | refine Hb.drew ?_ | refine Hb.ext (by assumption) ?_ | exact Hb.setSameL (by first | omega | (simp only [size_alloc, size_setB, size_drew]; omega)) | exact Hb.setSame (by assumption) | refine Hb.set (by first | omega | (simp only [size_alloc, size_setB, size_drew]; omega)) ?_ ))) (by first | omega | assumption | rfl | decide | exact Nat.le_refl _ | (simp only [size_ic, Value.cells]; omega) | simp) (Xt.h (by first | assumption | exact Xt.whole rfl rfl | exact Xt.whole rfl (by simp only [size_ic, Value.cells]; omega) | exact ⟨rfl⟩)) ?_
        refine WO_call Hvad.call131 (by rfl) (Ret.mono (isZero_spec A4 _ hA4) ?_)
        rintro _ w5 ⟨rfl, hE5⟩
        have hz5 := hE5.1
        try simp only [size_setB] at hz5
        refine WO_nil ?_
        refine thn_normal ?_
        refine W_if rfl (fun hb12 => ?_) (fun hb12 => ?_)
        · have hb12p := hb12.h; try simp only [al_ete, al_dfn, Bool.not_eq_true', Bool.not_eq_false', al_ne, Bool.not_not, al_nn] at hb12p
          refine W_seq ?_
          refine W_region rfl ?_
          refine WO_p (PS_buildI (k := .u64) (zs := [0, 0, 0, 0]) (ps := []) (L := [0, 0, 0, 0]) Hvad.zeroValue59 Hvad.runUnderlying59 Hvad.sizeOf26 rfl rfl rfl rfl) ?_
          first | refine WO_storeW Hvad.sizeOf59 rfl (v := .agg _) rfl (Hb.h (by repeat (first | assumption | exact Hb.newY _ _ | refine Hb.alloc ?_ | refine Hb.drew ?_ | refine Hb.ext (by assumption) ?_ | exact Hb.setSameL (by first | omega | (simp only [size_alloc, size_setB, size_drew]; omega)) | exact Hb.setSame (by assumption) | refine Hb.set (by first | omega | (simp only [size_alloc, size_setB, size_drew]; omega)) ?_ ))) rfl (by first | omega | assumption | rfl | decide | exact Nat.le_refl _ | (simp only [size_ic, Value.cells]; omega) | simp) (by first | omega | assumption | rfl | decide | exact Nat.le_refl _ | (simp only [size_ic, Value.cells]; omega) | simp) (by first | exact oneCell_ic | assumption) ?_ | refine WO_store Hvad.sizeOf59 rfl (v := .agg _) rfl (Hb.h (by repeat (first | assumption | exact Hb.newY _ _ | refine Hb.alloc ?_ | refine Hb.drew ?_ | refine Hb.ext (by assumption) ?_ | exact Hb.setSameL (by first | omega | (simp only [size_alloc, size_setB, size_drew]; omega)) | exact Hb.setSame (by assumption) | refine Hb.set (by first | omega | (simp only [size_alloc, size_setB, size_drew]; omega)) ?_ ))) (by first | omega | assumption | rfl | decide | exact Nat.le_refl _ | (simp only [size_ic, Value.cells]; omega) | simp) (by first | omega | assumption | rfl | decide | exact Nat.le_refl _ | (simp only [size_ic, Value.cells]; omega) | simp) (by first | exact oneCell_ic | assumption) ?_
          refine WO_nil ?_
          refine thn_normal ?_
          refine W_ret ?_
          refine inBlk_ret ?_
          refine thn_ret ?_
          refine thn_ret ?_
          refine inBlk_ret ?_
          refine thn_ret ?_
          refine bodyQ_cell1 Hvad.results173 rfl Hvad.isAgg59 Hvad.sizeOf59 rfl (Hb.h (by repeat (first | assumption | exact Hb.newY _ _ | refine Hb.alloc ?_ | refine Hb.drew ?_ | refine Hb.ext (by assumption) ?_ | exact Hb.setSameL (by first | omega | (simp only [size_alloc, size_setB, size_drew]; omega)) | exact Hb.setSame (by assumption) | refine Hb.set (by first | omega | (simp only [size_alloc, size_setB, size_drew]; omega)) ?_ ))) (by first | omega | assumption | rfl | decide | exact Nat.le_refl _ | (simp only [size_ic, Value.cells]; omega) | simp) ?_
          first
          | exact ⟨(by repeat (first | assumption | exact Ext.refl _ | refine Ext.alloc ?_ _ | refine Ext.drew ?_ | refine Ext.setB ?_ (by first | omega | (simp only [size_alloc, size_setB, size_drew]; omega)) _ | refine Ext.trans ?_ (by assumption))), _, rfl, h1d⟩
          | exact ⟨(by repeat (first | assumption | exact Ext.refl _ | refine Ext.alloc ?_ _ | refine Ext.drew ?_ | refine Ext.setB ?_ (by first | omega | (simp only [size_alloc, size_setB, size_drew]; omega)) _ | refine Ext.trans ?_ (by assumption))), _, rfl, Wd0⟩
          | exact ⟨(by repeat (first | assumption | exact Ext.refl _ | refine Ext.alloc ?_ _ | refine Ext.drew ?_ | refine Ext.setB ?_ (by first | omega | (simp only [size_alloc, size_setB, size_drew]; omega)) _ | refine Ext.trans ?_ (by assumption))), _, rfl, ofV_wd _⟩
        · have hb12p := hb12.h; try simp only [al_ete, al_dfn, Bool.not_eq_true', Bool.not_eq_false', al_ne, Bool.not_not, al_nn] at hb12p
          refine W_skip ?_
          refine inBlk_normal ?_
          refine thn_normal ?_
          refine W_region rfl ?_
          refine WO_p (PS_move_int rfl) ?_
          first | refine WO_p (PS_add_i64n rfl rfl (by omega) (by omega)) ?_ | refine WO_p (PS_add_i64w rfl rfl) ?_
          refine WO_p (PS_assign_int rfl) ?_
          refine WO_nil ?_
          refine thn_normal ?_
          exact ⟨m - 1, by omega, k + 1, l, A4, P5, hA4, hP5, by omega, by omega, by omega, ⟨rfl, rfl, rfl, rfl, rfl, rfl, trivial⟩, (by repeat (first | assumption | exact Ext.refl _ | refine Ext.alloc ?_ _ | refine Ext.drew ?_ | refine Ext.setB ?_ (by first | omega | (simp only [size_alloc, size_setB, size_drew]; omega)) _ | refine Ext.trans ?_ (by assumption))), (by (repeat (first | assumption | refine Hb.ext (by assumption) ?_ | exact Hb.setSame (by assumption) | exact Hb.setSameL (by first | omega | (simp only [size_alloc, size_setB, size_drew]; omega)) | refine Hb.set (by first | omega | (simp only [size_alloc, size_setB, size_drew]; omega)) ?_)); done), (by (repeat (first | assumption | refine Hb.ext (by assumption) ?_ | exact Hb.setSame (by assumption) | exact Hb.setSameL (by first | omega | (simp only [size_alloc, size_setB, size_drew]; omega)) | refine Hb.set (by first | omega | (simp only [size_alloc, size_setB, size_drew]; omega)) ?_)); done), (by (repeat (first | assumption | refine Hb.ext (by assumption) ?_ | exact Hb.setSame (by assumption) | exact Hb.setSameL (by first | omega | (simp only [size_alloc, size_setB, size_drew]; omega)) | refine Hb.set (by first | omega | (simp only [size_alloc, size_setB, size_drew]; omega)) ?_)); done), (by (repeat (first | assumption | refine Hb.ext (by assumption) ?_ | exact Hb.setSame (by assumption) | exact Hb.setSameL (by first | omega | (simp only [size_alloc, size_setB, size_drew]; omega)) | refine Hb.set (by first | omega | (simp only [size_alloc, size_setB, size_drew]; omega)) ?_)); done)⟩
      · have hb8p := hb8.h; try simp only [al_ete, al_dfn, Bool.not_eq_true', Bool.not_eq_false', al_ne, Bool.not_not, al_nn] at hb8p
        obtain ⟨P5, hP5, hPb⟩ : ∃ P5, Wd P5 ∧ Hb w2 ((((w.alloc (.cells (Value.agg (ic .u64 W)).cells 59)).alloc (.cells (Value.agg (ic .u64 X)).cells 59)).alloc (.cells (Value.agg #[.int .u64 0, .int .u64 0, .int .u64 0, .int .u64 0]).cells 59)).heap.size) (.cells (ic .u64 P5) 59 (0, 0)) := ⟨P, hP, hP2⟩
        refine W_skip ?_
        refine thn_normal ?_
        refine W_seq ?_
        refine W_region rfl ?_
        refine WO_loadA _ Hvad.isAgg59 Hvad.sizeOf59 rfl (Hb.h (by repeat (first | assumption | exact Hb.newY _ _ | refine Hb.alloc ?_ | refine Hb.drew ?_ | refine Hb.ext (by assumption) ?_ | exact Hb.setSameL (by first | omega | (simp only [size_alloc, size_setB, size_drew]; omega)) | exact Hb.setSame (by assumption) | refine Hb.set (by first | omega | (simp only [size_alloc, size_setB, size_drew]; omega)) ?_ ))) (by first | omega | assumption | rfl | decide | exact Nat.le_refl _ | (simp only [size_ic, Value.cells]; omega) | simp) (Xt.h (by first | assumption | exact Xt.whole rfl rfl | exact Xt.whole rfl (by simp only [size_ic, Value.cells]; omega) | exact ⟨rfl⟩)) ?_
        refine WO_call Hvad.call256 (by rfl) (Ret.mono (square_spec A _ hA) ?_)
        rintro _ w4 ⟨hE4, A4, rfl, hA4⟩
        have hz4 := hE4.1
        try simp only [size_setB] at hz4
        have hAl4 := hA4.1
        first | refine WO_storeW Hvad.sizeOf59 rfl (v := .agg _) rfl (Hb.h (by repeat (first | assumption | exact Hb.newY _ _ | refine Hb.alloc ?_ | refine Hb.drew ?_ | refine Hb.ext (by assumption) ?_ | exact Hb.setSameL (by first | omega | (simp only [size_alloc, size_setB, size_drew]; omega)) | exact Hb.setSame (by assumption) | refine Hb.set (by first | omega | (simp only [size_alloc, size_setB, size_drew]; omega)) ?_ ))) rfl (by first | omega | assumption | rfl | decide | exact Nat.le_refl _ | (simp only [size_ic, Value.cells]; omega) | simp) (by first | omega | assumption | rfl | decide | exact Nat.le_refl _ | (simp only [size_ic, Value.cells]; omega) | simp) (by first | exact oneCell_ic | assumption) ?_ | refine WO_store Hvad.sizeOf59 rfl (v := .agg _) rfl (Hb.h (by repeat (first | assumption | exact Hb.newY _ _ | refine Hb.alloc ?_ | refine Hb.drew ?_ | refine Hb.ext (by assumption) ?_ | exact Hb.setSameL (by first | omega | (simp only [size_alloc, size_setB, size_drew]; omega)) | exact Hb.setSame (by assumption) | refine Hb.set (by first | omega | (simp only [size_alloc, size_setB, size_drew]; omega)) ?_ ))) (by first | omega | assumption | rfl | decide | exact Nat.le_refl _ | (simp only [size_ic, Value.cells]; omega) | simp) (by first | omega | assumption | rfl | decide | exact Nat.le_refl _ | (simp only [size_ic, Value.cells]; omega) | simp) (by first | exact oneCell_ic | assumption) ?_
        refine WO_nil ?_
        refine thn_normal ?_
        refine W_seq ?_
        refine W_region rfl ?_
        refine WO_loadA _ Hvad.isAgg59 Hvad.sizeOf59 rfl (Hb.h (by repeat (first | assumption | exact Hb.newY _ _ | refine Hb.alloc ?_ | refine Hb.drew ?_ | refine Hb.ext (by assumption) ?_ | exact Hb.setSameL (by first | omega | (simp only [size_alloc, size_setB, size_drew]; omega)) | exact Hb.setSame (by assumption) | refine Hb.set (by first | omega | (simp only [size_alloc, size_setB, size_drew]; omega)) ?_ ))) (by first | omega | assumption | rfl | decide | exact Nat.le_refl _ | (simp only [size_ic, Value.cells]; omega) | simp) (Xt.h (by first | assumption | exact Xt.whole rfl rfl | exact Xt.whole rfl (by simp only [size_ic, Value.cells]; omega) | exact ⟨rfl⟩)) ?_
        refine WO_call Hvad.call131 (by rfl) (Ret.mono (isZero_spec A4 _ hA4) ?_)
        rintro _ w5 ⟨rfl, hE5⟩
        have hz5 := hE5.1
        try simp only [size_setB] at hz5
        refine WO_nil ?_
        refine thn_normal ?_
        refine W_if rfl (fun hb15 => ?_) (fun hb15 => ?_)
        · have hb15p := hb15.h; try simp only [al_ete, al_dfn, Bool.not_eq_true', Bool.not_eq_false', al_ne, Bool.not_not, al_nn] at hb15p
          refine W_seq ?_
          refine W_region rfl ?_
          refine WO_p (PS_buildI (k := .u64) (zs := [0, 0, 0, 0]) (ps := []) (L := [0, 0, 0, 0]) Hvad.zeroValue59 Hvad.runUnderlying59 Hvad.sizeOf26 rfl rfl rfl rfl) ?_
          first | refine WO_storeW Hvad.sizeOf59 rfl (v := .agg _) rfl (Hb.h (by repeat (first | assumption | exact Hb.newY _ _ | refine Hb.alloc ?_ | refine Hb.drew ?_ | refine Hb.ext (by assumption) ?_ | exact Hb.setSameL (by first | omega | (simp only [size_alloc, size_setB, size_drew]; omega)) | exact Hb.setSame (by assumption) | refine Hb.set (by first | omega | (simp only [size_alloc, size_setB, size_drew]; omega)) ?_ ))) rfl (by first | omega | assumption | rfl | decide | exact Nat.le_refl _ | (simp only [size_ic, Value.cells]; omega) | simp) (by first | omega | assumption | rfl | decide | exact Nat.le_refl _ | (simp only [size_ic, Value.cells]; omega) | simp) (by first | exact oneCell_ic | assumption) ?_ | refine WO_store Hvad.sizeOf59 rfl (v := .agg _) rfl (Hb.h (by repeat (first | assumption | exact Hb.newY _ _ | refine Hb.alloc ?_ | refine Hb.drew ?_ | refine Hb.ext (by assumption) ?_ | exact Hb.setSameL (by first | omega | (simp only [size_alloc, size_setB, size_drew]; omega)) | exact Hb.setSame (by assumption) | refine Hb.set (by first | omega | (simp only [size_alloc, size_setB, size_drew]; omega)) ?_ ))) (by first | omega | assumption | rfl | decide | exact Nat.le_refl _ | (simp only [size_ic, Value.cells]; omega) | simp) (by first | omega | assumption | rfl | decide | exact Nat.le_refl _ | (simp only [size_ic, Value.cells]; omega) | simp) (by first | exact oneCell_ic | assumption) ?_
          refine WO_nil ?_
          refine thn_normal ?_
          refine W_ret ?_
          refine inBlk_ret ?_
          refine thn_ret ?_
          refine thn_ret ?_
          refine inBlk_ret ?_
          refine thn_ret ?_
          refine bodyQ_cell1 Hvad.results173 rfl Hvad.isAgg59 Hvad.sizeOf59 rfl (Hb.h (by repeat (first | assumption | exact Hb.newY _ _ | refine Hb.alloc ?_ | refine Hb.drew ?_ | refine Hb.ext (by assumption) ?_ | exact Hb.setSameL (by first | omega | (simp only [size_alloc, size_setB, size_drew]; omega)) | exact Hb.setSame (by assumption) | refine Hb.set (by first | omega | (simp only [size_alloc, size_setB, size_drew]; omega)) ?_ ))) (by first | omega | assumption | rfl | decide | exact Nat.le_refl _ | (simp only [size_ic, Value.cells]; omega) | simp) ?_
          first
          | exact ⟨(by repeat (first | assumption | exact Ext.refl _ | refine Ext.alloc ?_ _ | refine Ext.drew ?_ | refine Ext.setB ?_ (by first | omega | (simp only [size_alloc, size_setB, size_drew]; omega)) _ | refine Ext.trans ?_ (by assumption))), _, rfl, h1d⟩
          | exact ⟨(by repeat (first | assumption | exact Ext.refl _ | refine Ext.alloc ?_ _ | refine Ext.drew ?_ | refine Ext.setB ?_ (by first | omega | (simp only [size_alloc, size_setB, size_drew]; omega)) _ | refine Ext.trans ?_ (by assumption))), _, rfl, Wd0⟩
          | exact ⟨(by repeat (first | assumption | exact Ext.refl _ | refine Ext.alloc ?_ _ | refine Ext.drew ?_ | refine Ext.setB ?_ (by first | omega | (simp only [size_alloc, size_setB, size_drew]; omega)) _ | refine Ext.trans ?_ (by assumption))), _, rfl, ofV_wd _⟩
        · have hb15p := hb15.h; try simp only [al_ete, al_dfn, Bool.not_eq_true', Bool.not_eq_false', al_ne, Bool.not_not, al_nn] at hb15p
          refine W_skip ?_
          refine inBlk_normal ?_
          refine thn_normal ?_
          refine W_region rfl ?_
          refine WO_p (PS_move_int rfl) ?_
          first | refine WO_p (PS_add_i64n rfl rfl (by omega) (by omega)) ?_ | refine WO_p (PS_add_i64w rfl rfl) ?_
          refine WO_p (PS_assign_int rfl) ?_
          refine WO_nil ?_
          refine thn_normal ?_
          exact ⟨m - 1, by omega, k + 1, l, A4, P5, hA4, hP5, by omega, by omega, by omega, ⟨rfl, rfl, rfl, rfl, rfl, rfl, trivial⟩, (by repeat (first | assumption | exact Ext.refl _ | refine Ext.alloc ?_ _ | refine Ext.drew ?_ | refine Ext.setB ?_ (by first | omega | (simp only [size_alloc, size_setB, size_drew]; omega)) _ | refine Ext.trans ?_ (by assumption))), (by (repeat (first | assumption | refine Hb.ext (by assumption) ?_ | exact Hb.setSame (by assumption) | exact Hb.setSameL (by first | omega | (simp only [size_alloc, size_setB, size_drew]; omega)) | refine Hb.set (by first | omega | (simp only [size_alloc, size_setB, size_drew]; omega)) ?_)); done), (by (repeat (first | assumption | refine Hb.ext (by assumption) ?_ | exact Hb.setSame (by assumption) | exact Hb.setSameL (by first | omega | (simp only [size_alloc, size_setB, size_drew]; omega)) | refine Hb.set (by first | omega | (simp only [size_alloc, size_setB, size_drew]; omega)) ?_)); done), (by (repeat (first | assumption | refine Hb.ext (by assumption) ?_ | exact Hb.setSame (by assumption) | exact Hb.setSameL (by first | omega | (simp only [size_alloc, size_setB, size_drew]; omega)) | refine Hb.set (by first | omega | (simp only [size_alloc, size_setB, size_drew]; omega)) ?_)); done), (by (repeat (first | assumption | refine Hb.ext (by assumption) ?_ | exact Hb.setSame (by assumption) | exact Hb.setSameL (by first | omega | (simp only [size_alloc, size_setB, size_drew]; omega)) | refine Hb.set (by first | omega | (simp only [size_alloc, size_setB, size_drew]; omega)) ?_)); done)⟩
    · have hb6p := hb6.h; try simp only [al_ete, al_dfn, Bool.not_eq_true', Bool.not_eq_false', al_ne, Bool.not_not, al_nn] at hb6p
      refine W_exit ?_
      refine thn_exit ?_
      refine thn_exit ?_
      refine inBlk_exit ?_
      refine thn_normal ?_
      refine W_seq ?_
      refine W_region rfl ?_
      refine WO_loadA _ Hvad.isAgg59 Hvad.sizeOf59 rfl (Hb.h (by repeat (first | assumption | exact Hb.newY _ _ | refine Hb.alloc ?_ | refine Hb.drew ?_ | refine Hb.ext (by assumption) ?_ | exact Hb.setSameL (by first | omega | (simp only [size_alloc, size_setB, size_drew]; omega)) | exact Hb.setSame (by assumption) | refine Hb.set (by first | omega | (simp only [size_alloc, size_setB, size_drew]; omega)) ?_ ))) (by first | omega | assumption | rfl | decide | exact Nat.le_refl _ | (simp only [size_ic, Value.cells]; omega) | simp) (Xt.h (by first | assumption | exact Xt.whole rfl rfl | exact Xt.whole rfl (by simp only [size_ic, Value.cells]; omega) | exact ⟨rfl⟩)) ?_
      refine WO_loadA _ Hvad.isAgg59 Hvad.sizeOf59 rfl (Hb.h (by repeat (first | assumption | exact Hb.newY _ _ | refine Hb.alloc ?_ | refine Hb.drew ?_ | refine Hb.ext (by assumption) ?_ | exact Hb.setSameL (by first | omega | (simp only [size_alloc, size_setB, size_drew]; omega)) | exact Hb.setSame (by assumption) | refine Hb.set (by first | omega | (simp only [size_alloc, size_setB, size_drew]; omega)) ?_ ))) (by first | omega | assumption | rfl | decide | exact Nat.le_refl _ | (simp only [size_ic, Value.cells]; omega) | simp) (Xt.h (by first | assumption | exact Xt.whole rfl rfl | exact Xt.whole rfl (by simp only [size_ic, Value.cells]; omega) | exact ⟨rfl⟩)) ?_
      refine WO_call Hvad.call32 (by rfl) (Ret.mono (mul_spec P A _ hP hA) ?_)
      rintro _ w3 ⟨rfl, hE3⟩
      have hz3 := hE3.1
      first | refine WO_storeW Hvad.sizeOf59 rfl (v := .agg _) rfl (Hb.h (by repeat (first | assumption | exact Hb.newY _ _ | refine Hb.alloc ?_ | refine Hb.drew ?_ | refine Hb.ext (by assumption) ?_ | exact Hb.setSameL (by first | omega | (simp only [size_alloc, size_setB, size_drew]; omega)) | exact Hb.setSame (by assumption) | refine Hb.set (by first | omega | (simp only [size_alloc, size_setB, size_drew]; omega)) ?_ ))) rfl (by first | omega | assumption | rfl | decide | exact Nat.le_refl _ | (simp only [size_ic, Value.cells]; omega) | simp) (by first | omega | assumption | rfl | decide | exact Nat.le_refl _ | (simp only [size_ic, Value.cells]; omega) | simp) (by first | exact oneCell_ic | assumption) ?_ | refine WO_store Hvad.sizeOf59 rfl (v := .agg _) rfl (Hb.h (by repeat (first | assumption | exact Hb.newY _ _ | refine Hb.alloc ?_ | refine Hb.drew ?_ | refine Hb.ext (by assumption) ?_ | exact Hb.setSameL (by first | omega | (simp only [size_alloc, size_setB, size_drew]; omega)) | exact Hb.setSame (by assumption) | refine Hb.set (by first | omega | (simp only [size_alloc, size_setB, size_drew]; omega)) ?_ ))) (by first | omega | assumption | rfl | decide | exact Nat.le_refl _ | (simp only [size_ic, Value.cells]; omega) | simp) (by first | omega | assumption | rfl | decide | exact Nat.le_refl _ | (simp only [size_ic, Value.cells]; omega) | simp) (by first | exact oneCell_ic | assumption) ?_
      refine WO_nil ?_
      refine thn_normal ?_
      refine W_ret ?_
      refine bodyQ_cell1 Hvad.results173 rfl Hvad.isAgg59 Hvad.sizeOf59 rfl (Hb.h (by repeat (first | assumption | exact Hb.newY _ _ | refine Hb.alloc ?_ | refine Hb.drew ?_ | refine Hb.ext (by assumption) ?_ | exact Hb.setSameL (by first | omega | (simp only [size_alloc, size_setB, size_drew]; omega)) | exact Hb.setSame (by assumption) | refine Hb.set (by first | omega | (simp only [size_alloc, size_setB, size_drew]; omega)) ?_ ))) (by first | omega | assumption | rfl | decide | exact Nat.le_refl _ | (simp only [size_ic, Value.cells]; omega) | simp) ?_
      first
      | exact ⟨(by repeat (first | assumption | exact Ext.refl _ | refine Ext.alloc ?_ _ | refine Ext.drew ?_ | refine Ext.setB ?_ (by first | omega | (simp only [size_alloc, size_setB, size_drew]; omega)) _ | refine Ext.trans ?_ (by assumption))), _, rfl, h1d⟩
      | exact ⟨(by repeat (first | assumption | exact Ext.refl _ | refine Ext.alloc ?_ _ | refine Ext.drew ?_ | refine Ext.setB ?_ (by first | omega | (simp only [size_alloc, size_setB, size_drew]; omega)) _ | refine Ext.trans ?_ (by assumption))), _, rfl, Wd0⟩
      | exact ⟨(by repeat (first | assumption | exact Ext.refl _ | refine Ext.alloc ?_ _ | refine Ext.drew ?_ | refine Ext.setB ?_ (by first | omega | (simp only [size_alloc, size_setB, size_drew]; omega)) _ | refine Ext.trans ?_ (by assumption))), _, rfl, ofV_wd _⟩

end Go.Proofs.YgvadwGreat
