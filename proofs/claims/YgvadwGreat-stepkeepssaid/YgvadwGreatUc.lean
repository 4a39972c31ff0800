import Derived.Test.YgvadwGreatUb
namespace Go.Proofs.YgvadwGreat
set_option linter.unusedSimpArgs false
set_option linter.unusedVariables false
theorem ce_ic {k : IntKind} {l : List Int} {i : Nat} (h : i < l.length) : Ce (ic k l) (0 + i * 1) (.int k (l.getD i 0)) := by
  refine ⟨?_⟩
  rw [show 0 + i * 1 = i by omega]
  simp [ic, List.getD_eq_getElem?_getD, h]
theorem wd_get {W : List Int} (h : Wd W) (i : Nat) : 0 ≤ W.getD i 0 ∧ W.getD i 0 ≤ 18446744073709551615 := by
  rw [List.getD_eq_getElem?_getD]
  cases hk : W[i]? with
  | none => simp
  | some x => exact h.2 x (List.mem_of_getElem? hk)
theorem shr_bd {a : Int} (m : Nat) (h : 0 ≤ a ∧ a ≤ 18446744073709551615) : 0 ≤ a / 2 ^ m ∧ a / 2 ^ m ≤ 18446744073709551615 := by
  have hp : (0:Int) < 2 ^ m := Int.pow_pos (by decide)
  refine ⟨Int.ediv_nonneg h.1 (Int.le_of_lt hp), Int.le_trans (Int.ediv_le_self _ h.1) h.2⟩
theorem wd1 {a : Int} (h : 0 ≤ a ∧ a ≤ 18446744073709551615) : Wd [a, 0, 0, 0] := wd4 h (by decide) (by decide) (by decide)

set_option maxRecDepth 10000 in
theorem andW_spec (W X : List Int) (w : World) (hW : Wd W) (hX : Wd X) : Ret Hvad.prog 180 #[.agg (ic .u64 W), .agg (ic .u64 X)] w fun u w' => Ext w w' ∧ ∃ R, u = .agg (ic .u64 R) ∧ Wd R := by
  obtain ⟨a0, a1, a2, a3, rfl, h0, h1, h2, h3⟩ := isZ hW
  obtain ⟨b0, b1, b2, b3, rfl, k0, k1, k2, k3⟩ := isZ hX
  refine Ret_of_W Hvad.func180 rfl rfl ?_
  refine W_seq ?_
  refine W_region rfl ?_
  refine WO_box (.agg _) rfl ?_
  refine WO_box (.agg _) rfl ?_
  refine WO_alloc Hvad.zeroValue59 ?_
  refine WO_nil ?_
  refine thn_normal ?_
  refine W_seq ?_
  refine W_region rfl ?_
  refine WO_p (PS_indexA Hvad.runUnderlying59 Hvad.sizeOf26 rfl rfl (by omega) (by omega)) ?_
  refine WO_load (.int _ _) Hvad.isAgg26 rfl (Hb.h (by repeat (first | assumption | exact Hb.newY _ _ | refine Hb.alloc ?_ | refine Hb.drew ?_ | refine Hb.ext (by assumption) ?_ | exact Hb.setSameL (by first | omega | (simp only [size_alloc, size_setB, size_drew]; omega)) | exact Hb.setSame (by assumption) | refine Hb.set (by first | omega | (simp only [size_alloc, size_setB, size_drew]; omega)) ?_ ))) (Ce.h (by first | assumption | exact ⟨rfl⟩)) ?_
  refine WO_p (PS_indexA Hvad.runUnderlying59 Hvad.sizeOf26 rfl rfl (by omega) (by omega)) ?_
  refine WO_load (.int _ _) Hvad.isAgg26 rfl (Hb.h (by repeat (first | assumption | exact Hb.newY _ _ | refine Hb.alloc ?_ | refine Hb.drew ?_ | refine Hb.ext (by assumption) ?_ | exact Hb.setSameL (by first | omega | (simp only [size_alloc, size_setB, size_drew]; omega)) | exact Hb.setSame (by assumption) | refine Hb.set (by first | omega | (simp only [size_alloc, size_setB, size_drew]; omega)) ?_ ))) (Ce.h (by first | assumption | exact ⟨rfl⟩)) ?_
  refine WO_p (PS_and_u64 rfl rfl) ?_
  refine WO_p (PS_indexA Hvad.runUnderlying59 Hvad.sizeOf26 rfl rfl (by omega) (by omega)) ?_
  refine WO_load (.int _ _) Hvad.isAgg26 rfl (Hb.h (by repeat (first | assumption | exact Hb.newY _ _ | refine Hb.alloc ?_ | refine Hb.drew ?_ | refine Hb.ext (by assumption) ?_ | exact Hb.setSameL (by first | omega | (simp only [size_alloc, size_setB, size_drew]; omega)) | exact Hb.setSame (by assumption) | refine Hb.set (by first | omega | (simp only [size_alloc, size_setB, size_drew]; omega)) ?_ ))) (Ce.h (by first | assumption | exact ⟨rfl⟩)) ?_
  refine WO_p (PS_indexA Hvad.runUnderlying59 Hvad.sizeOf26 rfl rfl (by omega) (by omega)) ?_
  refine WO_load (.int _ _) Hvad.isAgg26 rfl (Hb.h (by repeat (first | assumption | exact Hb.newY _ _ | refine Hb.alloc ?_ | refine Hb.drew ?_ | refine Hb.ext (by assumption) ?_ | exact Hb.setSameL (by first | omega | (simp only [size_alloc, size_setB, size_drew]; omega)) | exact Hb.setSame (by assumption) | refine Hb.set (by first | omega | (simp only [size_alloc, size_setB, size_drew]; omega)) ?_ ))) (Ce.h (by first | assumption | exact ⟨rfl⟩)) ?_
  refine WO_p (PS_and_u64 rfl rfl) ?_
  refine WO_p (PS_indexA Hvad.runUnderlying59 Hvad.sizeOf26 rfl rfl (by omega) (by omega)) ?_
  refine WO_load (.int _ _) Hvad.isAgg26 rfl (Hb.h (by repeat (first | assumption | exact Hb.newY _ _ | refine Hb.alloc ?_ | refine Hb.drew ?_ | refine Hb.ext (by assumption) ?_ | exact Hb.setSameL (by first | omega | (simp only [size_alloc, size_setB, size_drew]; omega)) | exact Hb.setSame (by assumption) | refine Hb.set (by first | omega | (simp only [size_alloc, size_setB, size_drew]; omega)) ?_ ))) (Ce.h (by first | assumption | exact ⟨rfl⟩)) ?_
  refine WO_p (PS_indexA Hvad.runUnderlying59 Hvad.sizeOf26 rfl rfl (by omega) (by omega)) ?_
  refine WO_load (.int _ _) Hvad.isAgg26 rfl (Hb.h (by repeat (first | assumption | exact Hb.newY _ _ | refine Hb.alloc ?_ | refine Hb.drew ?_ | refine Hb.ext (by assumption) ?_ | exact Hb.setSameL (by first | omega | (simp only [size_alloc, size_setB, size_drew]; omega)) | exact Hb.setSame (by assumption) | refine Hb.set (by first | omega | (simp only [size_alloc, size_setB, size_drew]; omega)) ?_ ))) (Ce.h (by first | assumption | exact ⟨rfl⟩)) ?_
  refine WO_p (PS_and_u64 rfl rfl) ?_
  refine WO_p (PS_indexA Hvad.runUnderlying59 Hvad.sizeOf26 rfl rfl (by omega) (by omega)) ?_
  refine WO_load (.int _ _) Hvad.isAgg26 rfl (Hb.h (by repeat (first | assumption | exact Hb.newY _ _ | refine Hb.alloc ?_ | refine Hb.drew ?_ | refine Hb.ext (by assumption) ?_ | exact Hb.setSameL (by first | omega | (simp only [size_alloc, size_setB, size_drew]; omega)) | exact Hb.setSame (by assumption) | refine Hb.set (by first | omega | (simp only [size_alloc, size_setB, size_drew]; omega)) ?_ ))) (Ce.h (by first | assumption | exact ⟨rfl⟩)) ?_
  refine WO_p (PS_indexA Hvad.runUnderlying59 Hvad.sizeOf26 rfl rfl (by omega) (by omega)) ?_
  refine WO_load (.int _ _) Hvad.isAgg26 rfl (Hb.h (by repeat (first | assumption | exact Hb.newY _ _ | refine Hb.alloc ?_ | refine Hb.drew ?_ | refine Hb.ext (by assumption) ?_ | exact Hb.setSameL (by first | omega | (simp only [size_alloc, size_setB, size_drew]; omega)) | exact Hb.setSame (by assumption) | refine Hb.set (by first | omega | (simp only [size_alloc, size_setB, size_drew]; omega)) ?_ ))) (Ce.h (by first | assumption | exact ⟨rfl⟩)) ?_
  refine WO_p (PS_and_u64 rfl rfl) ?_
  refine WO_p (PS_buildI (k := .u64) (zs := [0, 0, 0, 0]) (ps := [(0, _), (1, _), (2, _), (3, _)]) (L := [_, _, _, _]) Hvad.zeroValue59 Hvad.runUnderlying59 Hvad.sizeOf26 rfl rfl rfl rfl) ?_
  first | refine WO_storeW Hvad.sizeOf59 rfl (v := .agg _) rfl (Hb.h (by repeat (first | assumption | exact Hb.newY _ _ | refine Hb.alloc ?_ | refine Hb.drew ?_ | refine Hb.ext (by assumption) ?_ | exact Hb.setSameL (by first | omega | (simp only [size_alloc, size_setB, size_drew]; omega)) | exact Hb.setSame (by assumption) | refine Hb.set (by first | omega | (simp only [size_alloc, size_setB, size_drew]; omega)) ?_ ))) rfl (by first | omega | assumption | rfl | decide | exact Nat.le_refl _ | (simp only [size_ic, Value.cells]; omega) | simp) (by first | omega | assumption | rfl | decide | exact Nat.le_refl _ | (simp only [size_ic, Value.cells]; omega) | simp) (by first | exact oneCell_ic | assumption) ?_ | refine WO_store Hvad.sizeOf59 rfl (v := .agg _) rfl (Hb.h (by repeat (first | assumption | exact Hb.newY _ _ | refine Hb.alloc ?_ | refine Hb.drew ?_ | refine Hb.ext (by assumption) ?_ | exact Hb.setSameL (by first | omega | (simp only [size_alloc, size_setB, size_drew]; omega)) | exact Hb.setSame (by assumption) | refine Hb.set (by first | omega | (simp only [size_alloc, size_setB, size_drew]; omega)) ?_ ))) (by first | omega | assumption | rfl | decide | exact Nat.le_refl _ | (simp only [size_ic, Value.cells]; omega) | simp) (by first | omega | assumption | rfl | decide | exact Nat.le_refl _ | (simp only [size_ic, Value.cells]; omega) | simp) (by first | exact oneCell_ic | assumption) ?_
  refine WO_nil ?_
  refine thn_normal ?_
  refine W_ret ?_
  refine bodyQ_cell1 Hvad.results180 rfl Hvad.isAgg59 Hvad.sizeOf59 rfl (Hb.h (by repeat (first | assumption | exact Hb.newY _ _ | refine Hb.alloc ?_ | refine Hb.drew ?_ | refine Hb.ext (by assumption) ?_ | exact Hb.setSameL (by first | omega | (simp only [size_alloc, size_setB, size_drew]; omega)) | exact Hb.setSame (by assumption) | refine Hb.set (by first | omega | (simp only [size_alloc, size_setB, size_drew]; omega)) ?_ ))) (by first | omega | assumption | rfl | decide | exact Nat.le_refl _ | (simp only [size_ic, Value.cells]; omega) | simp) ?_
  exact ⟨(by repeat (first | assumption | exact Ext.refl _ | refine Ext.alloc ?_ _ | refine Ext.drew ?_ | refine Ext.setB ?_ (by first | omega | (simp only [size_alloc, size_setB, size_drew]; omega)) _ | refine Ext.trans ?_ (by assumption))), _, rfl, wd4 (bAnd_bd _ _) (bAnd_bd _ _) (bAnd_bd _ _) (bAnd_bd _ _)⟩

set_option maxRecDepth 10000 in
theorem orW_spec (W X : List Int) (w : World) (hW : Wd W) (hX : Wd X) : Ret Hvad.prog 181 #[.agg (ic .u64 W), .agg (ic .u64 X)] w fun u w' => Ext w w' ∧ ∃ R, u = .agg (ic .u64 R) ∧ Wd R := by
  obtain ⟨a0, a1, a2, a3, rfl, h0, h1, h2, h3⟩ := isZ hW
  obtain ⟨b0, b1, b2, b3, rfl, k0, k1, k2, k3⟩ := isZ hX
  refine Ret_of_W Hvad.func181 rfl rfl ?_
  refine W_seq ?_
  refine W_region rfl ?_
  refine WO_box (.agg _) rfl ?_
  refine WO_box (.agg _) rfl ?_
  refine WO_alloc Hvad.zeroValue59 ?_
  refine WO_nil ?_
  refine thn_normal ?_
  refine W_seq ?_
  refine W_region rfl ?_
  refine WO_p (PS_indexA Hvad.runUnderlying59 Hvad.sizeOf26 rfl rfl (by omega) (by omega)) ?_
  refine WO_load (.int _ _) Hvad.isAgg26 rfl (Hb.h (by repeat (first | assumption | exact Hb.newY _ _ | refine Hb.alloc ?_ | refine Hb.drew ?_ | refine Hb.ext (by assumption) ?_ | exact Hb.setSameL (by first | omega | (simp only [size_alloc, size_setB, size_drew]; omega)) | exact Hb.setSame (by assumption) | refine Hb.set (by first | omega | (simp only [size_alloc, size_setB, size_drew]; omega)) ?_ ))) (Ce.h (by first | assumption | exact ⟨rfl⟩)) ?_
  refine WO_p (PS_indexA Hvad.runUnderlying59 Hvad.sizeOf26 rfl rfl (by omega) (by omega)) ?_
  refine WO_load (.int _ _) Hvad.isAgg26 rfl (Hb.h (by repeat (first | assumption | exact Hb.newY _ _ | refine Hb.alloc ?_ | refine Hb.drew ?_ | refine Hb.ext (by assumption) ?_ | exact Hb.setSameL (by first | omega | (simp only [size_alloc, size_setB, size_drew]; omega)) | exact Hb.setSame (by assumption) | refine Hb.set (by first | omega | (simp only [size_alloc, size_setB, size_drew]; omega)) ?_ ))) (Ce.h (by first | assumption | exact ⟨rfl⟩)) ?_
  refine WO_p (PS_or_u64 rfl rfl) ?_
  refine WO_p (PS_indexA Hvad.runUnderlying59 Hvad.sizeOf26 rfl rfl (by omega) (by omega)) ?_
  refine WO_load (.int _ _) Hvad.isAgg26 rfl (Hb.h (by repeat (first | assumption | exact Hb.newY _ _ | refine Hb.alloc ?_ | refine Hb.drew ?_ | refine Hb.ext (by assumption) ?_ | exact Hb.setSameL (by first | omega | (simp only [size_alloc, size_setB, size_drew]; omega)) | exact Hb.setSame (by assumption) | refine Hb.set (by first | omega | (simp only [size_alloc, size_setB, size_drew]; omega)) ?_ ))) (Ce.h (by first | assumption | exact ⟨rfl⟩)) ?_
  refine WO_p (PS_indexA Hvad.runUnderlying59 Hvad.sizeOf26 rfl rfl (by omega) (by omega)) ?_
  refine WO_load (.int _ _) Hvad.isAgg26 rfl (Hb.h (by repeat (first | assumption | exact Hb.newY _ _ | refine Hb.alloc ?_ | refine Hb.drew ?_ | refine Hb.ext (by assumption) ?_ | exact Hb.setSameL (by first | omega | (simp only [size_alloc, size_setB, size_drew]; omega)) | exact Hb.setSame (by assumption) | refine Hb.set (by first | omega | (simp only [size_alloc, size_setB, size_drew]; omega)) ?_ ))) (Ce.h (by first | assumption | exact ⟨rfl⟩)) ?_
  refine WO_p (PS_or_u64 rfl rfl) ?_
  refine WO_p (PS_indexA Hvad.runUnderlying59 Hvad.sizeOf26 rfl rfl (by omega) (by omega)) ?_
  refine WO_load (.int _ _) Hvad.isAgg26 rfl (Hb.h (by repeat (first | assumption | exact Hb.newY _ _ | refine Hb.alloc ?_ | refine Hb.drew ?_ | refine Hb.ext (by assumption) ?_ | exact Hb.setSameL (by first | omega | (simp only [size_alloc, size_setB, size_drew]; omega)) | exact Hb.setSame (by assumption) | refine Hb.set (by first | omega | (simp only [size_alloc, size_setB, size_drew]; omega)) ?_ ))) (Ce.h (by first | assumption | exact ⟨rfl⟩)) ?_
  refine WO_p (PS_indexA Hvad.runUnderlying59 Hvad.sizeOf26 rfl rfl (by omega) (by omega)) ?_
  refine WO_load (.int _ _) Hvad.isAgg26 rfl (Hb.h (by repeat (first | assumption | exact Hb.newY _ _ | refine Hb.alloc ?_ | refine Hb.drew ?_ | refine Hb.ext (by assumption) ?_ | exact Hb.setSameL (by first | omega | (simp only [size_alloc, size_setB, size_drew]; omega)) | exact Hb.setSame (by assumption) | refine Hb.set (by first | omega | (simp only [size_alloc, size_setB, size_drew]; omega)) ?_ ))) (Ce.h (by first | assumption | exact ⟨rfl⟩)) ?_
  refine WO_p (PS_or_u64 rfl rfl) ?_
  refine WO_p (PS_indexA Hvad.runUnderlying59 Hvad.sizeOf26 rfl rfl (by omega) (by omega)) ?_
  refine WO_load (.int _ _) Hvad.isAgg26 rfl (Hb.h (by repeat (first | assumption | exact Hb.newY _ _ | refine Hb.alloc ?_ | refine Hb.drew ?_ | refine Hb.ext (by assumption) ?_ | exact Hb.setSameL (by first | omega | (simp only [size_alloc, size_setB, size_drew]; omega)) | exact Hb.setSame (by assumption) | refine Hb.set (by first | omega | (simp only [size_alloc, size_setB, size_drew]; omega)) ?_ ))) (Ce.h (by first | assumption | exact ⟨rfl⟩)) ?_
  refine WO_p (PS_indexA Hvad.runUnderlying59 Hvad.sizeOf26 rfl rfl (by omega) (by omega)) ?_
  refine WO_load (.int _ _) Hvad.isAgg26 rfl (Hb.h (by repeat (first | assumption | exact Hb.newY _ _ | refine Hb.alloc ?_ | refine Hb.drew ?_ | refine Hb.ext (by assumption) ?_ | exact Hb.setSameL (by first | omega | (simp only [size_alloc, size_setB, size_drew]; omega)) | exact Hb.setSame (by assumption) | refine Hb.set (by first | omega | (simp only [size_alloc, size_setB, size_drew]; omega)) ?_ ))) (Ce.h (by first | assumption | exact ⟨rfl⟩)) ?_
  refine WO_p (PS_or_u64 rfl rfl) ?_
  refine WO_p (PS_buildI (k := .u64) (zs := [0, 0, 0, 0]) (ps := [(0, _), (1, _), (2, _), (3, _)]) (L := [_, _, _, _]) Hvad.zeroValue59 Hvad.runUnderlying59 Hvad.sizeOf26 rfl rfl rfl rfl) ?_
  first | refine WO_storeW Hvad.sizeOf59 rfl (v := .agg _) rfl (Hb.h (by repeat (first | assumption | exact Hb.newY _ _ | refine Hb.alloc ?_ | refine Hb.drew ?_ | refine Hb.ext (by assumption) ?_ | exact Hb.setSameL (by first | omega | (simp only [size_alloc, size_setB, size_drew]; omega)) | exact Hb.setSame (by assumption) | refine Hb.set (by first | omega | (simp only [size_alloc, size_setB, size_drew]; omega)) ?_ ))) rfl (by first | omega | assumption | rfl | decide | exact Nat.le_refl _ | (simp only [size_ic, Value.cells]; omega) | simp) (by first | omega | assumption | rfl | decide | exact Nat.le_refl _ | (simp only [size_ic, Value.cells]; omega) | simp) (by first | exact oneCell_ic | assumption) ?_ | refine WO_store Hvad.sizeOf59 rfl (v := .agg _) rfl (Hb.h (by repeat (first | assumption | exact Hb.newY _ _ | refine Hb.alloc ?_ | refine Hb.drew ?_ | refine Hb.ext (by assumption) ?_ | exact Hb.setSameL (by first | omega | (simp only [size_alloc, size_setB, size_drew]; omega)) | exact Hb.setSame (by assumption) | refine Hb.set (by first | omega | (simp only [size_alloc, size_setB, size_drew]; omega)) ?_ ))) (by first | omega | assumption | rfl | decide | exact Nat.le_refl _ | (simp only [size_ic, Value.cells]; omega) | simp) (by first | omega | assumption | rfl | decide | exact Nat.le_refl _ | (simp only [size_ic, Value.cells]; omega) | simp) (by first | exact oneCell_ic | assumption) ?_
  refine WO_nil ?_
  refine thn_normal ?_
  refine W_ret ?_
  refine bodyQ_cell1 Hvad.results181 rfl Hvad.isAgg59 Hvad.sizeOf59 rfl (Hb.h (by repeat (first | assumption | exact Hb.newY _ _ | refine Hb.alloc ?_ | refine Hb.drew ?_ | refine Hb.ext (by assumption) ?_ | exact Hb.setSameL (by first | omega | (simp only [size_alloc, size_setB, size_drew]; omega)) | exact Hb.setSame (by assumption) | refine Hb.set (by first | omega | (simp only [size_alloc, size_setB, size_drew]; omega)) ?_ ))) (by first | omega | assumption | rfl | decide | exact Nat.le_refl _ | (simp only [size_ic, Value.cells]; omega) | simp) ?_
  exact ⟨(by repeat (first | assumption | exact Ext.refl _ | refine Ext.alloc ?_ _ | refine Ext.drew ?_ | refine Ext.setB ?_ (by first | omega | (simp only [size_alloc, size_setB, size_drew]; omega)) _ | refine Ext.trans ?_ (by assumption))), _, rfl, wd4 (bOr_bd _ _) (bOr_bd _ _) (bOr_bd _ _) (bOr_bd _ _)⟩

set_option maxRecDepth 10000 in
theorem xorW_spec (W X : List Int) (w : World) (hW : Wd W) (hX : Wd X) : Ret Hvad.prog 182 #[.agg (ic .u64 W), .agg (ic .u64 X)] w fun u w' => Ext w w' ∧ ∃ R, u = .agg (ic .u64 R) ∧ Wd R := by
  obtain ⟨a0, a1, a2, a3, rfl, h0, h1, h2, h3⟩ := isZ hW
  obtain ⟨b0, b1, b2, b3, rfl, k0, k1, k2, k3⟩ := isZ hX
  refine Ret_of_W Hvad.func182 rfl rfl ?_
  refine W_seq ?_
  refine W_region rfl ?_
  refine WO_box (.agg _) rfl ?_
  refine WO_box (.agg _) rfl ?_
  refine WO_alloc Hvad.zeroValue59 ?_
  refine WO_nil ?_
  refine thn_normal ?_
  refine W_seq ?_
  refine W_region rfl ?_
  refine WO_p (PS_indexA Hvad.runUnderlying59 Hvad.sizeOf26 rfl rfl (by omega) (by omega)) ?_
  refine WO_load (.int _ _) Hvad.isAgg26 rfl (Hb.h (by repeat (first | assumption | exact Hb.newY _ _ | refine Hb.alloc ?_ | refine Hb.drew ?_ | refine Hb.ext (by assumption) ?_ | exact Hb.setSameL (by first | omega | (simp only [size_alloc, size_setB, size_drew]; omega)) | exact Hb.setSame (by assumption) | refine Hb.set (by first | omega | (simp only [size_alloc, size_setB, size_drew]; omega)) ?_ ))) (Ce.h (by first | assumption | exact ⟨rfl⟩)) ?_
  refine WO_p (PS_indexA Hvad.runUnderlying59 Hvad.sizeOf26 rfl rfl (by omega) (by omega)) ?_
  refine WO_load (.int _ _) Hvad.isAgg26 rfl (Hb.h (by repeat (first | assumption | exact Hb.newY _ _ | refine Hb.alloc ?_ | refine Hb.drew ?_ | refine Hb.ext (by assumption) ?_ | exact Hb.setSameL (by first | omega | (simp only [size_alloc, size_setB, size_drew]; omega)) | exact Hb.setSame (by assumption) | refine Hb.set (by first | omega | (simp only [size_alloc, size_setB, size_drew]; omega)) ?_ ))) (Ce.h (by first | assumption | exact ⟨rfl⟩)) ?_
  refine WO_p (PS_xor_u64 rfl rfl) ?_
  refine WO_p (PS_indexA Hvad.runUnderlying59 Hvad.sizeOf26 rfl rfl (by omega) (by omega)) ?_
  refine WO_load (.int _ _) Hvad.isAgg26 rfl (Hb.h (by repeat (first | assumption | exact Hb.newY _ _ | refine Hb.alloc ?_ | refine Hb.drew ?_ | refine Hb.ext (by assumption) ?_ | exact Hb.setSameL (by first | omega | (simp only [size_alloc, size_setB, size_drew]; omega)) | exact Hb.setSame (by assumption) | refine Hb.set (by first | omega | (simp only [size_alloc, size_setB, size_drew]; omega)) ?_ ))) (Ce.h (by first | assumption | exact ⟨rfl⟩)) ?_
  refine WO_p (PS_indexA Hvad.runUnderlying59 Hvad.sizeOf26 rfl rfl (by omega) (by omega)) ?_
  refine WO_load (.int _ _) Hvad.isAgg26 rfl (Hb.h (by repeat (first | assumption | exact Hb.newY _ _ | refine Hb.alloc ?_ | refine Hb.drew ?_ | refine Hb.ext (by assumption) ?_ | exact Hb.setSameL (by first | omega | (simp only [size_alloc, size_setB, size_drew]; omega)) | exact Hb.setSame (by assumption) | refine Hb.set (by first | omega | (simp only [size_alloc, size_setB, size_drew]; omega)) ?_ ))) (Ce.h (by first | assumption | exact ⟨rfl⟩)) ?_
  refine WO_p (PS_xor_u64 rfl rfl) ?_
  refine WO_p (PS_indexA Hvad.runUnderlying59 Hvad.sizeOf26 rfl rfl (by omega) (by omega)) ?_
  refine WO_load (.int _ _) Hvad.isAgg26 rfl (Hb.h (by repeat (first | assumption | exact Hb.newY _ _ | refine Hb.alloc ?_ | refine Hb.drew ?_ | refine Hb.ext (by assumption) ?_ | exact Hb.setSameL (by first | omega | (simp only [size_alloc, size_setB, size_drew]; omega)) | exact Hb.setSame (by assumption) | refine Hb.set (by first | omega | (simp only [size_alloc, size_setB, size_drew]; omega)) ?_ ))) (Ce.h (by first | assumption | exact ⟨rfl⟩)) ?_
  refine WO_p (PS_indexA Hvad.runUnderlying59 Hvad.sizeOf26 rfl rfl (by omega) (by omega)) ?_
  refine WO_load (.int _ _) Hvad.isAgg26 rfl (Hb.h (by repeat (first | assumption | exact Hb.newY _ _ | refine Hb.alloc ?_ | refine Hb.drew ?_ | refine Hb.ext (by assumption) ?_ | exact Hb.setSameL (by first | omega | (simp only [size_alloc, size_setB, size_drew]; omega)) | exact Hb.setSame (by assumption) | refine Hb.set (by first | omega | (simp only [size_alloc, size_setB, size_drew]; omega)) ?_ ))) (Ce.h (by first | assumption | exact ⟨rfl⟩)) ?_
  refine WO_p (PS_xor_u64 rfl rfl) ?_
  refine WO_p (PS_indexA Hvad.runUnderlying59 Hvad.sizeOf26 rfl rfl (by omega) (by omega)) ?_
  refine WO_load (.int _ _) Hvad.isAgg26 rfl (Hb.h (by repeat (first | assumption | exact Hb.newY _ _ | refine Hb.alloc ?_ | refine Hb.drew ?_ | refine Hb.ext (by assumption) ?_ | exact Hb.setSameL (by first | omega | (simp only [size_alloc, size_setB, size_drew]; omega)) | exact Hb.setSame (by assumption) | refine Hb.set (by first | omega | (simp only [size_alloc, size_setB, size_drew]; omega)) ?_ ))) (Ce.h (by first | assumption | exact ⟨rfl⟩)) ?_
  refine WO_p (PS_indexA Hvad.runUnderlying59 Hvad.sizeOf26 rfl rfl (by omega) (by omega)) ?_
  refine WO_load (.int _ _) Hvad.isAgg26 rfl (Hb.h (by repeat (first | assumption | exact Hb.newY _ _ | refine Hb.alloc ?_ | refine Hb.drew ?_ | refine Hb.ext (by assumption) ?_ | exact Hb.setSameL (by first | omega | (simp only [size_alloc, size_setB, size_drew]; omega)) | exact Hb.setSame (by assumption) | refine Hb.set (by first | omega | (simp only [size_alloc, size_setB, size_drew]; omega)) ?_ ))) (Ce.h (by first | assumption | exact ⟨rfl⟩)) ?_
  refine WO_p (PS_xor_u64 rfl rfl) ?_
  refine WO_p (PS_buildI (k := .u64) (zs := [0, 0, 0, 0]) (ps := [(0, _), (1, _), (2, _), (3, _)]) (L := [_, _, _, _]) Hvad.zeroValue59 Hvad.runUnderlying59 Hvad.sizeOf26 rfl rfl rfl rfl) ?_
  first | refine WO_storeW Hvad.sizeOf59 rfl (v := .agg _) rfl (Hb.h (by repeat (first | assumption | exact Hb.newY _ _ | refine Hb.alloc ?_ | refine Hb.drew ?_ | refine Hb.ext (by assumption) ?_ | exact Hb.setSameL (by first | omega | (simp only [size_alloc, size_setB, size_drew]; omega)) | exact Hb.setSame (by assumption) | refine Hb.set (by first | omega | (simp only [size_alloc, size_setB, size_drew]; omega)) ?_ ))) rfl (by first | omega | assumption | rfl | decide | exact Nat.le_refl _ | (simp only [size_ic, Value.cells]; omega) | simp) (by first | omega | assumption | rfl | decide | exact Nat.le_refl _ | (simp only [size_ic, Value.cells]; omega) | simp) (by first | exact oneCell_ic | assumption) ?_ | refine WO_store Hvad.sizeOf59 rfl (v := .agg _) rfl (Hb.h (by repeat (first | assumption | exact Hb.newY _ _ | refine Hb.alloc ?_ | refine Hb.drew ?_ | refine Hb.ext (by assumption) ?_ | exact Hb.setSameL (by first | omega | (simp only [size_alloc, size_setB, size_drew]; omega)) | exact Hb.setSame (by assumption) | refine Hb.set (by first | omega | (simp only [size_alloc, size_setB, size_drew]; omega)) ?_ ))) (by first | omega | assumption | rfl | decide | exact Nat.le_refl _ | (simp only [size_ic, Value.cells]; omega) | simp) (by first | omega | assumption | rfl | decide | exact Nat.le_refl _ | (simp only [size_ic, Value.cells]; omega) | simp) (by first | exact oneCell_ic | assumption) ?_
  refine WO_nil ?_
  refine thn_normal ?_
  refine W_ret ?_
  refine bodyQ_cell1 Hvad.results182 rfl Hvad.isAgg59 Hvad.sizeOf59 rfl (Hb.h (by repeat (first | assumption | exact Hb.newY _ _ | refine Hb.alloc ?_ | refine Hb.drew ?_ | refine Hb.ext (by assumption) ?_ | exact Hb.setSameL (by first | omega | (simp only [size_alloc, size_setB, size_drew]; omega)) | exact Hb.setSame (by assumption) | refine Hb.set (by first | omega | (simp only [size_alloc, size_setB, size_drew]; omega)) ?_ ))) (by first | omega | assumption | rfl | decide | exact Nat.le_refl _ | (simp only [size_ic, Value.cells]; omega) | simp) ?_
  exact ⟨(by repeat (first | assumption | exact Ext.refl _ | refine Ext.alloc ?_ _ | refine Ext.drew ?_ | refine Ext.setB ?_ (by first | omega | (simp only [size_alloc, size_setB, size_drew]; omega)) _ | refine Ext.trans ?_ (by assumption))), _, rfl, wd4 (bXor_bd _ _) (bXor_bd _ _) (bXor_bd _ _) (bXor_bd _ _)⟩

set_option maxRecDepth 10000 in
theorem notW_spec (W : List Int) (w : World) (hW : Wd W) : Ret Hvad.prog 183 #[.agg (ic .u64 W)] w fun u w' => Ext w w' ∧ ∃ R, u = .agg (ic .u64 R) ∧ Wd R := by
  obtain ⟨a0, a1, a2, a3, rfl, h0, h1, h2, h3⟩ := isZ hW
  refine Ret_of_W Hvad.func183 rfl rfl ?_
  refine W_seq ?_
  refine W_region rfl ?_
  refine WO_box (.agg _) rfl ?_
  refine WO_alloc Hvad.zeroValue59 ?_
  refine WO_nil ?_
  refine thn_normal ?_
  refine W_seq ?_
  refine W_region rfl ?_
  refine WO_p (PS_indexA Hvad.runUnderlying59 Hvad.sizeOf26 rfl rfl (by omega) (by omega)) ?_
  refine WO_load (.int _ _) Hvad.isAgg26 rfl (Hb.h (by repeat (first | assumption | exact Hb.newY _ _ | refine Hb.alloc ?_ | refine Hb.drew ?_ | refine Hb.ext (by assumption) ?_ | exact Hb.setSameL (by first | omega | (simp only [size_alloc, size_setB, size_drew]; omega)) | exact Hb.setSame (by assumption) | refine Hb.set (by first | omega | (simp only [size_alloc, size_setB, size_drew]; omega)) ?_ ))) (Ce.h (by first | assumption | exact ⟨rfl⟩)) ?_
  refine WO_p (PS_com_u64 rfl) ?_
  refine WO_p (PS_indexA Hvad.runUnderlying59 Hvad.sizeOf26 rfl rfl (by omega) (by omega)) ?_
  refine WO_load (.int _ _) Hvad.isAgg26 rfl (Hb.h (by repeat (first | assumption | exact Hb.newY _ _ | refine Hb.alloc ?_ | refine Hb.drew ?_ | refine Hb.ext (by assumption) ?_ | exact Hb.setSameL (by first | omega | (simp only [size_alloc, size_setB, size_drew]; omega)) | exact Hb.setSame (by assumption) | refine Hb.set (by first | omega | (simp only [size_alloc, size_setB, size_drew]; omega)) ?_ ))) (Ce.h (by first | assumption | exact ⟨rfl⟩)) ?_
  refine WO_p (PS_com_u64 rfl) ?_
  refine WO_p (PS_indexA Hvad.runUnderlying59 Hvad.sizeOf26 rfl rfl (by omega) (by omega)) ?_
  refine WO_load (.int _ _) Hvad.isAgg26 rfl (Hb.h (by repeat (first | assumption | exact Hb.newY _ _ | refine Hb.alloc ?_ | refine Hb.drew ?_ | refine Hb.ext (by assumption) ?_ | exact Hb.setSameL (by first | omega | (simp only [size_alloc, size_setB, size_drew]; omega)) | exact Hb.setSame (by assumption) | refine Hb.set (by first | omega | (simp only [size_alloc, size_setB, size_drew]; omega)) ?_ ))) (Ce.h (by first | assumption | exact ⟨rfl⟩)) ?_
  refine WO_p (PS_com_u64 rfl) ?_
  refine WO_p (PS_indexA Hvad.runUnderlying59 Hvad.sizeOf26 rfl rfl (by omega) (by omega)) ?_
  refine WO_load (.int _ _) Hvad.isAgg26 rfl (Hb.h (by repeat (first | assumption | exact Hb.newY _ _ | refine Hb.alloc ?_ | refine Hb.drew ?_ | refine Hb.ext (by assumption) ?_ | exact Hb.setSameL (by first | omega | (simp only [size_alloc, size_setB, size_drew]; omega)) | exact Hb.setSame (by assumption) | refine Hb.set (by first | omega | (simp only [size_alloc, size_setB, size_drew]; omega)) ?_ ))) (Ce.h (by first | assumption | exact ⟨rfl⟩)) ?_
  refine WO_p (PS_com_u64 rfl) ?_
  refine WO_p (PS_buildI (k := .u64) (zs := [0, 0, 0, 0]) (ps := [(0, _), (1, _), (2, _), (3, _)]) (L := [_, _, _, _]) Hvad.zeroValue59 Hvad.runUnderlying59 Hvad.sizeOf26 rfl rfl rfl rfl) ?_
  first | refine WO_storeW Hvad.sizeOf59 rfl (v := .agg _) rfl (Hb.h (by repeat (first | assumption | exact Hb.newY _ _ | refine Hb.alloc ?_ | refine Hb.drew ?_ | refine Hb.ext (by assumption) ?_ | exact Hb.setSameL (by first | omega | (simp only [size_alloc, size_setB, size_drew]; omega)) | exact Hb.setSame (by assumption) | refine Hb.set (by first | omega | (simp only [size_alloc, size_setB, size_drew]; omega)) ?_ ))) rfl (by first | omega | assumption | rfl | decide | exact Nat.le_refl _ | (simp only [size_ic, Value.cells]; omega) | simp) (by first | omega | assumption | rfl | decide | exact Nat.le_refl _ | (simp only [size_ic, Value.cells]; omega) | simp) (by first | exact oneCell_ic | assumption) ?_ | refine WO_store Hvad.sizeOf59 rfl (v := .agg _) rfl (Hb.h (by repeat (first | assumption | exact Hb.newY _ _ | refine Hb.alloc ?_ | refine Hb.drew ?_ | refine Hb.ext (by assumption) ?_ | exact Hb.setSameL (by first | omega | (simp only [size_alloc, size_setB, size_drew]; omega)) | exact Hb.setSame (by assumption) | refine Hb.set (by first | omega | (simp only [size_alloc, size_setB, size_drew]; omega)) ?_ ))) (by first | omega | assumption | rfl | decide | exact Nat.le_refl _ | (simp only [size_ic, Value.cells]; omega) | simp) (by first | omega | assumption | rfl | decide | exact Nat.le_refl _ | (simp only [size_ic, Value.cells]; omega) | simp) (by first | exact oneCell_ic | assumption) ?_
  refine WO_nil ?_
  refine thn_normal ?_
  refine W_ret ?_
  refine bodyQ_cell1 Hvad.results183 rfl Hvad.isAgg59 Hvad.sizeOf59 rfl (Hb.h (by repeat (first | assumption | exact Hb.newY _ _ | refine Hb.alloc ?_ | refine Hb.drew ?_ | refine Hb.ext (by assumption) ?_ | exact Hb.setSameL (by first | omega | (simp only [size_alloc, size_setB, size_drew]; omega)) | exact Hb.setSame (by assumption) | refine Hb.set (by first | omega | (simp only [size_alloc, size_setB, size_drew]; omega)) ?_ ))) (by first | omega | assumption | rfl | decide | exact Nat.le_refl _ | (simp only [size_ic, Value.cells]; omega) | simp) ?_
  exact ⟨(by repeat (first | assumption | exact Ext.refl _ | refine Ext.alloc ?_ _ | refine Ext.drew ?_ | refine Ext.setB ?_ (by first | omega | (simp only [size_alloc, size_setB, size_drew]; omega)) _ | refine Ext.trans ?_ (by assumption))), _, rfl, wd4 (bXor_bd _ _) (bXor_bd _ _) (bXor_bd _ _) (bXor_bd _ _)⟩

set_option maxRecDepth 10000 in
theorem negative_spec (W : List Int) (w : World) (hW : Wd W) : Ret Hvad.prog 255 #[.agg (ic .u64 W)] w fun u w' => Ext w w' ∧ ∃ q, u = .bool q := by
  obtain ⟨a0, a1, a2, a3, rfl, h0, h1, h2, h3⟩ := isZ hW
  refine Ret_of_W Hvad.func255 rfl rfl ?_
  refine W_seq ?_
  refine W_region rfl ?_
  refine WO_box (.agg _) rfl ?_
  refine WO_p (PS_assign_bool rfl) ?_
  refine WO_nil ?_
  refine thn_normal ?_
  refine W_seq ?_
  refine W_region rfl ?_
  refine WO_p (PS_indexA Hvad.runUnderlying59 Hvad.sizeOf26 rfl rfl (by omega) (by omega)) ?_
  refine WO_load (.int _ _) Hvad.isAgg26 rfl (Hb.h (by repeat (first | assumption | exact Hb.newY _ _ | refine Hb.alloc ?_ | refine Hb.drew ?_ | refine Hb.ext (by assumption) ?_ | exact Hb.setSameL (by first | omega | (simp only [size_alloc, size_setB, size_drew]; omega)) | exact Hb.setSame (by assumption) | refine Hb.set (by first | omega | (simp only [size_alloc, size_setB, size_drew]; omega)) ?_ ))) (Ce.h (by first | assumption | exact ⟨rfl⟩)) ?_
  refine WO_p (PS_shr_u64 63 rfl rfl (by decide) rfl) ?_
  refine WO_p (PS_neq rfl rfl) ?_
  refine WO_p (PS_assign_bool rfl) ?_
  refine WO_nil ?_
  refine thn_normal ?_
  refine W_ret ?_
  refine bodyQ_ret1 Hvad.results255 rfl (.bool _) rfl ?_
  exact ⟨(by repeat (first | assumption | exact Ext.refl _ | refine Ext.alloc ?_ _ | refine Ext.drew ?_ | refine Ext.setB ?_ (by first | omega | (simp only [size_alloc, size_setB, size_drew]; omega)) _ | refine Ext.trans ?_ (by assumption))), _, rfl⟩

set_option maxRecDepth 10000 in
theorem signed_spec (W : List Int) (q : Bool) (w : World) (hW : Wd W) : Ret Hvad.prog 254 #[.agg (ic .u64 W), .bool q] w fun u w' => Ext w w' ∧ ∃ R, u = .agg (ic .u64 R) ∧ Wd R := by
  have hWl := hW.1
  have hol := (ofV_wd ((wv [0, 0, 0, 0] - wv W) % 115792089237316195423570985008687907853269984665640564039457584007913129639936)).1
  refine Ret_of_W Hvad.func254 rfl rfl ?_
  refine W_seq ?_
  refine W_region rfl ?_
  refine WO_box (.agg _) rfl ?_
  refine WO_alloc Hvad.zeroValue59 ?_
  refine WO_nil ?_
  refine thn_normal ?_
  refine W_seq ?_
  refine W_seq ?_
  refine W_region rfl ?_
  refine WO_p (PS_move_bool rfl) ?_
  refine WO_nil ?_
  refine thn_normal ?_
  refine W_if rfl (fun hb2 => ?_) (fun hb2 => ?_)
  · have hb2p := hb2.h; try simp only [al_ete, al_dfn, Bool.not_eq_true', Bool.not_eq_false', al_ne, Bool.not_not, al_nn] at hb2p
    refine W_seq ?_
    refine W_region rfl ?_
    refine WO_p (PS_buildI (k := .u64) (zs := [0, 0, 0, 0]) (ps := []) (L := [0, 0, 0, 0]) Hvad.zeroValue59 Hvad.runUnderlying59 Hvad.sizeOf26 rfl rfl rfl rfl) ?_
    refine WO_loadA _ Hvad.isAgg59 Hvad.sizeOf59 rfl (Hb.h (by repeat (first | assumption | exact Hb.newY _ _ | refine Hb.alloc ?_ | refine Hb.drew ?_ | refine Hb.ext (by assumption) ?_ | exact Hb.setSameL (by first | omega | (simp only [size_alloc, size_setB, size_drew]; omega)) | exact Hb.setSame (by assumption) | refine Hb.set (by first | omega | (simp only [size_alloc, size_setB, size_drew]; omega)) ?_ ))) (by first | omega | assumption | rfl | decide | exact Nat.le_refl _ | (simp only [size_ic, Value.cells]; omega) | simp) (Xt.h (by first | assumption | exact Xt.whole rfl rfl | exact Xt.whole rfl (by simp only [size_ic, Value.cells]; omega) | exact ⟨rfl⟩)) ?_
    refine WO_call Hvad.call35 (by rfl) (Ret.mono (sub_spec [0, 0, 0, 0] W _ Wd0 hW) ?_)
    rintro _ w35_2 ⟨rfl, hE35_2⟩
    have hz35_2 := hE35_2.1
    try simp only [size_alloc, size_setB, size_drew] at hz35_2
    first | refine WO_storeW Hvad.sizeOf59 rfl (v := .agg _) rfl (Hb.h (by repeat (first | assumption | exact Hb.newY _ _ | refine Hb.alloc ?_ | refine Hb.drew ?_ | refine Hb.ext (by assumption) ?_ | exact Hb.setSameL (by first | omega | (simp only [size_alloc, size_setB, size_drew]; omega)) | exact Hb.setSame (by assumption) | refine Hb.set (by first | omega | (simp only [size_alloc, size_setB, size_drew]; omega)) ?_ ))) rfl (by first | omega | assumption | rfl | decide | exact Nat.le_refl _ | (simp only [size_ic, Value.cells]; omega) | simp) (by first | omega | assumption | rfl | decide | exact Nat.le_refl _ | (simp only [size_ic, Value.cells]; omega) | simp) (by first | exact oneCell_ic | assumption) ?_ | refine WO_store Hvad.sizeOf59 rfl (v := .agg _) rfl (Hb.h (by repeat (first | assumption | exact Hb.newY _ _ | refine Hb.alloc ?_ | refine Hb.drew ?_ | refine Hb.ext (by assumption) ?_ | exact Hb.setSameL (by first | omega | (simp only [size_alloc, size_setB, size_drew]; omega)) | exact Hb.setSame (by assumption) | refine Hb.set (by first | omega | (simp only [size_alloc, size_setB, size_drew]; omega)) ?_ ))) (by first | omega | assumption | rfl | decide | exact Nat.le_refl _ | (simp only [size_ic, Value.cells]; omega) | simp) (by first | omega | assumption | rfl | decide | exact Nat.le_refl _ | (simp only [size_ic, Value.cells]; omega) | simp) (by first | exact oneCell_ic | assumption) ?_
    refine WO_nil ?_
    refine thn_normal ?_
    refine W_ret ?_
    refine thn_ret ?_
    refine bodyQ_cell1 Hvad.results254 rfl Hvad.isAgg59 Hvad.sizeOf59 rfl (Hb.h (by repeat (first | assumption | exact Hb.newY _ _ | refine Hb.alloc ?_ | refine Hb.drew ?_ | refine Hb.ext (by assumption) ?_ | exact Hb.setSameL (by first | omega | (simp only [size_alloc, size_setB, size_drew]; omega)) | exact Hb.setSame (by assumption) | refine Hb.set (by first | omega | (simp only [size_alloc, size_setB, size_drew]; omega)) ?_ ))) (by first | omega | assumption | rfl | decide | exact Nat.le_refl _ | (simp only [size_ic, Value.cells]; omega) | simp) ?_
    exact ⟨(by repeat (first | assumption | exact Ext.refl _ | refine Ext.alloc ?_ _ | refine Ext.drew ?_ | refine Ext.setB ?_ (by first | omega | (simp only [size_alloc, size_setB, size_drew]; omega)) _ | refine Ext.trans ?_ (by assumption))), _, rfl, by first | exact hW | exact ofV_wd _⟩
  · have hb2p := hb2.h; try simp only [al_ete, al_dfn, Bool.not_eq_true', Bool.not_eq_false', al_ne, Bool.not_not, al_nn] at hb2p
    refine W_skip ?_
    refine thn_normal ?_
    refine W_seq ?_
    refine W_region rfl ?_
    refine WO_loadA _ Hvad.isAgg59 Hvad.sizeOf59 rfl (Hb.h (by repeat (first | assumption | exact Hb.newY _ _ | refine Hb.alloc ?_ | refine Hb.drew ?_ | refine Hb.ext (by assumption) ?_ | exact Hb.setSameL (by first | omega | (simp only [size_alloc, size_setB, size_drew]; omega)) | exact Hb.setSame (by assumption) | refine Hb.set (by first | omega | (simp only [size_alloc, size_setB, size_drew]; omega)) ?_ ))) (by first | omega | assumption | rfl | decide | exact Nat.le_refl _ | (simp only [size_ic, Value.cells]; omega) | simp) (Xt.h (by first | assumption | exact Xt.whole rfl rfl | exact Xt.whole rfl (by simp only [size_ic, Value.cells]; omega) | exact ⟨rfl⟩)) ?_
    first | refine WO_storeW Hvad.sizeOf59 rfl (v := .agg _) rfl (Hb.h (by repeat (first | assumption | exact Hb.newY _ _ | refine Hb.alloc ?_ | refine Hb.drew ?_ | refine Hb.ext (by assumption) ?_ | exact Hb.setSameL (by first | omega | (simp only [size_alloc, size_setB, size_drew]; omega)) | exact Hb.setSame (by assumption) | refine Hb.set (by first | omega | (simp only [size_alloc, size_setB, size_drew]; omega)) ?_ ))) rfl (by first | omega | assumption | rfl | decide | exact Nat.le_refl _ | (simp only [size_ic, Value.cells]; omega) | simp) (by first | omega | assumption | rfl | decide | exact Nat.le_refl _ | (simp only [size_ic, Value.cells]; omega) | simp) (by first | exact oneCell_ic | assumption) ?_ | refine WO_store Hvad.sizeOf59 rfl (v := .agg _) rfl (Hb.h (by repeat (first | assumption | exact Hb.newY _ _ | refine Hb.alloc ?_ | refine Hb.drew ?_ | refine Hb.ext (by assumption) ?_ | exact Hb.setSameL (by first | omega | (simp only [size_alloc, size_setB, size_drew]; omega)) | exact Hb.setSame (by assumption) | refine Hb.set (by first | omega | (simp only [size_alloc, size_setB, size_drew]; omega)) ?_ ))) (by first | omega | assumption | rfl | decide | exact Nat.le_refl _ | (simp only [size_ic, Value.cells]; omega) | simp) (by first | omega | assumption | rfl | decide | exact Nat.le_refl _ | (simp only [size_ic, Value.cells]; omega) | simp) (by first | exact oneCell_ic | assumption) ?_
    refine WO_nil ?_
    refine thn_normal ?_
    refine W_ret ?_
    refine bodyQ_cell1 Hvad.results254 rfl Hvad.isAgg59 Hvad.sizeOf59 rfl (Hb.h (by repeat (first | assumption | exact Hb.newY _ _ | refine Hb.alloc ?_ | refine Hb.drew ?_ | refine Hb.ext (by assumption) ?_ | exact Hb.setSameL (by first | omega | (simp only [size_alloc, size_setB, size_drew]; omega)) | exact Hb.setSame (by assumption) | refine Hb.set (by first | omega | (simp only [size_alloc, size_setB, size_drew]; omega)) ?_ ))) (by first | omega | assumption | rfl | decide | exact Nat.le_refl _ | (simp only [size_ic, Value.cells]; omega) | simp) ?_
    exact ⟨(by repeat (first | assumption | exact Ext.refl _ | refine Ext.alloc ?_ _ | refine Ext.drew ?_ | refine Ext.setB ?_ (by first | omega | (simp only [size_alloc, size_setB, size_drew]; omega)) _ | refine Ext.trans ?_ (by assumption))), _, rfl, by first | exact hW | exact ofV_wd _⟩

set_option maxRecDepth 10000 in
theorem slt_spec (W X : List Int) (w : World) (hW : Wd W) (hX : Wd X) : Ret Hvad.prog 177 #[.agg (ic .u64 W), .agg (ic .u64 X)] w fun u w' => Ext w w' ∧ ∃ q, u = .bool q := by
  have hWl := hW.1
  have hXl := hX.1
  refine Ret_of_W Hvad.func177 rfl rfl ?_
  refine W_seq ?_
  refine W_region rfl ?_
  refine WO_box (.agg _) rfl ?_
  refine WO_box (.agg _) rfl ?_
  refine WO_p (PS_assign_bool rfl) ?_
  refine WO_nil ?_
  refine thn_normal ?_
  refine W_seq ?_
  refine W_seq ?_
  refine W_drawE [false, true, false, false, false] hmix (by kernel_rfl) rfl ?_
  refine WH_loadA _ Hvad.isAgg59 Hvad.sizeOf59 rfl (Hb.h (by repeat (first | assumption | exact Hb.newY _ _ | refine Hb.alloc ?_ | refine Hb.drew ?_ | refine Hb.ext (by assumption) ?_ | exact Hb.setSameL (by first | omega | (simp only [size_alloc, size_setB, size_drew]; omega)) | exact Hb.setSame (by assumption) | refine Hb.set (by first | omega | (simp only [size_alloc, size_setB, size_drew]; omega)) ?_ ))) (by first | omega | assumption | rfl | decide | exact Nat.le_refl _ | (simp only [size_ic, Value.cells]; omega) | simp) (Xt.h (by first | assumption | exact Xt.whole rfl rfl | exact Xt.whole rfl (by simp only [size_ic, Value.cells]; omega) | exact ⟨rfl⟩)) ?_
  refine WH_call Hvad.call255 (by rfl) (Ret.mono (negative_spec _ _ (by assumption)) ?_)
  rintro _ w255_0 ⟨hE255_0, q255_0, rfl⟩
  refine ⟨fun _ => (by repeat (first | assumption | exact Ext.refl _ | refine Ext.alloc ?_ _ | refine Ext.drew ?_ | refine Ext.setB ?_ (by first | omega | (simp only [size_alloc, size_setB, size_drew]; omega)) _ | exact Ext.trans (by assumption) (by assumption) | refine Ext.trans ?_ (by assumption))), ?_⟩
  have hz255_0 := hE255_0.1
  try simp only [size_alloc, size_setB, size_drew] at hz255_0
  refine WH_loadA _ Hvad.isAgg59 Hvad.sizeOf59 rfl (Hb.h (by repeat (first | assumption | exact Hb.newY _ _ | refine Hb.alloc ?_ | refine Hb.drew ?_ | refine Hb.ext (by assumption) ?_ | exact Hb.setSameL (by first | omega | (simp only [size_alloc, size_setB, size_drew]; omega)) | exact Hb.setSame (by assumption) | refine Hb.set (by first | omega | (simp only [size_alloc, size_setB, size_drew]; omega)) ?_ ))) (by first | omega | assumption | rfl | decide | exact Nat.le_refl _ | (simp only [size_ic, Value.cells]; omega) | simp) (Xt.h (by first | assumption | exact Xt.whole rfl rfl | exact Xt.whole rfl (by simp only [size_ic, Value.cells]; omega) | exact ⟨rfl⟩)) ?_
  refine WH_call Hvad.call255 (by rfl) (Ret.mono (negative_spec _ _ (by assumption)) ?_)
  rintro _ w255_1 ⟨hE255_1, q255_1, rfl⟩
  refine ⟨(fun h => by cases h), ?_⟩
  have hz255_1 := hE255_1.1
  try simp only [size_alloc, size_setB, size_drew] at hz255_1
  refine WH_p (PS_neqbool Hvad.underlying4 rfl rfl) rfl ?_
  refine WH_nil ?_
  refine thn_normal ?_
  refine W_if rfl (fun hb4 => ?_) (fun hb4 => ?_)
  · have hb4p := hb4.h; try simp only [al_ete, al_dfn, Bool.not_eq_true', Bool.not_eq_false', al_ne, Bool.not_not, al_nn] at hb4p
    refine W_seq ?_
    refine W_region rfl ?_
    refine WO_loadA _ Hvad.isAgg59 Hvad.sizeOf59 rfl (Hb.h (by repeat (first | assumption | exact Hb.newY _ _ | refine Hb.alloc ?_ | refine Hb.drew ?_ | refine Hb.ext (by assumption) ?_ | exact Hb.setSameL (by first | omega | (simp only [size_alloc, size_setB, size_drew]; omega)) | exact Hb.setSame (by assumption) | refine Hb.set (by first | omega | (simp only [size_alloc, size_setB, size_drew]; omega)) ?_ ))) (by first | omega | assumption | rfl | decide | exact Nat.le_refl _ | (simp only [size_ic, Value.cells]; omega) | simp) (Xt.h (by first | assumption | exact Xt.whole rfl rfl | exact Xt.whole rfl (by simp only [size_ic, Value.cells]; omega) | exact ⟨rfl⟩)) ?_
    refine WO_call Hvad.call255 (by rfl) (Ret.mono (negative_spec _ _ (by assumption)) ?_)
    rintro _ w255_4 ⟨hE255_4, q255_4, rfl⟩
    have hz255_4 := hE255_4.1
    try simp only [size_alloc, size_setB, size_drew] at hz255_4
    refine WO_p (PS_assign_bool rfl) ?_
    refine WO_nil ?_
    refine thn_normal ?_
    refine W_ret ?_
    refine thn_ret ?_
    refine bodyQ_ret1 Hvad.results177 rfl (.bool _) rfl ?_
    exact ⟨(by repeat (first | assumption | exact Ext.refl _ | refine Ext.alloc ?_ _ | refine Ext.drew ?_ | refine Ext.setB ?_ (by first | omega | (simp only [size_alloc, size_setB, size_drew]; omega)) _ | refine Ext.trans ?_ (by assumption))), _, rfl⟩
  · have hb4p := hb4.h; try simp only [al_ete, al_dfn, Bool.not_eq_true', Bool.not_eq_false', al_ne, Bool.not_not, al_nn] at hb4p
    refine W_skip ?_
    refine thn_normal ?_
    refine W_seq ?_
    refine W_region rfl ?_
    refine WO_loadA _ Hvad.isAgg59 Hvad.sizeOf59 rfl (Hb.h (by repeat (first | assumption | exact Hb.newY _ _ | refine Hb.alloc ?_ | refine Hb.drew ?_ | refine Hb.ext (by assumption) ?_ | exact Hb.setSameL (by first | omega | (simp only [size_alloc, size_setB, size_drew]; omega)) | exact Hb.setSame (by assumption) | refine Hb.set (by first | omega | (simp only [size_alloc, size_setB, size_drew]; omega)) ?_ ))) (by first | omega | assumption | rfl | decide | exact Nat.le_refl _ | (simp only [size_ic, Value.cells]; omega) | simp) (Xt.h (by first | assumption | exact Xt.whole rfl rfl | exact Xt.whole rfl (by simp only [size_ic, Value.cells]; omega) | exact ⟨rfl⟩)) ?_
    refine WO_loadA _ Hvad.isAgg59 Hvad.sizeOf59 rfl (Hb.h (by repeat (first | assumption | exact Hb.newY _ _ | refine Hb.alloc ?_ | refine Hb.drew ?_ | refine Hb.ext (by assumption) ?_ | exact Hb.setSameL (by first | omega | (simp only [size_alloc, size_setB, size_drew]; omega)) | exact Hb.setSame (by assumption) | refine Hb.set (by first | omega | (simp only [size_alloc, size_setB, size_drew]; omega)) ?_ ))) (by first | omega | assumption | rfl | decide | exact Nat.le_refl _ | (simp only [size_ic, Value.cells]; omega) | simp) (Xt.h (by first | assumption | exact Xt.whole rfl rfl | exact Xt.whole rfl (by simp only [size_ic, Value.cells]; omega) | exact ⟨rfl⟩)) ?_
    refine WO_call Hvad.call66 (by rfl) (Ret.mono (lt_spec _ _ _ (by assumption) (by assumption)) ?_)
    rintro _ w66_6 ⟨rfl, hE66_6⟩
    have hz66_6 := hE66_6.1
    try simp only [size_alloc, size_setB, size_drew] at hz66_6
    refine WO_p (PS_assign_bool rfl) ?_
    refine WO_nil ?_
    refine thn_normal ?_
    refine W_ret ?_
    refine bodyQ_ret1 Hvad.results177 rfl (.bool _) rfl ?_
    exact ⟨(by repeat (first | assumption | exact Ext.refl _ | refine Ext.alloc ?_ _ | refine Ext.drew ?_ | refine Ext.setB ?_ (by first | omega | (simp only [size_alloc, size_setB, size_drew]; omega)) _ | refine Ext.trans ?_ (by assumption))), _, rfl⟩

set_option maxRecDepth 10000 in
theorem sgt_spec (W X : List Int) (w : World) (hW : Wd W) (hX : Wd X) : Ret Hvad.prog 178 #[.agg (ic .u64 W), .agg (ic .u64 X)] w fun u w' => Ext w w' ∧ ∃ q, u = .bool q := by
  have hWl := hW.1
  have hXl := hX.1
  refine Ret_of_W Hvad.func178 rfl rfl ?_
  refine W_seq ?_
  refine W_region rfl ?_
  refine WO_box (.agg _) rfl ?_
  refine WO_box (.agg _) rfl ?_
  refine WO_p (PS_assign_bool rfl) ?_
  refine WO_nil ?_
  refine thn_normal ?_
  refine W_seq ?_
  refine W_region rfl ?_
  refine WO_loadA _ Hvad.isAgg59 Hvad.sizeOf59 rfl (Hb.h (by repeat (first | assumption | exact Hb.newY _ _ | refine Hb.alloc ?_ | refine Hb.drew ?_ | refine Hb.ext (by assumption) ?_ | exact Hb.setSameL (by first | omega | (simp only [size_alloc, size_setB, size_drew]; omega)) | exact Hb.setSame (by assumption) | refine Hb.set (by first | omega | (simp only [size_alloc, size_setB, size_drew]; omega)) ?_ ))) (by first | omega | assumption | rfl | decide | exact Nat.le_refl _ | (simp only [size_ic, Value.cells]; omega) | simp) (Xt.h (by first | assumption | exact Xt.whole rfl rfl | exact Xt.whole rfl (by simp only [size_ic, Value.cells]; omega) | exact ⟨rfl⟩)) ?_
  refine WO_loadA _ Hvad.isAgg59 Hvad.sizeOf59 rfl (Hb.h (by repeat (first | assumption | exact Hb.newY _ _ | refine Hb.alloc ?_ | refine Hb.drew ?_ | refine Hb.ext (by assumption) ?_ | exact Hb.setSameL (by first | omega | (simp only [size_alloc, size_setB, size_drew]; omega)) | exact Hb.setSame (by assumption) | refine Hb.set (by first | omega | (simp only [size_alloc, size_setB, size_drew]; omega)) ?_ ))) (by first | omega | assumption | rfl | decide | exact Nat.le_refl _ | (simp only [size_ic, Value.cells]; omega) | simp) (Xt.h (by first | assumption | exact Xt.whole rfl rfl | exact Xt.whole rfl (by simp only [size_ic, Value.cells]; omega) | exact ⟨rfl⟩)) ?_
  refine WO_call Hvad.call177 (by rfl) (Ret.mono (slt_spec _ _ _ (by assumption) (by assumption)) ?_)
  rintro _ w177_0 ⟨hE177_0, q177_0, rfl⟩
  have hz177_0 := hE177_0.1
  try simp only [size_alloc, size_setB, size_drew] at hz177_0
  refine WO_p (PS_assign_bool rfl) ?_
  refine WO_nil ?_
  refine thn_normal ?_
  refine W_ret ?_
  refine bodyQ_ret1 Hvad.results178 rfl (.bool _) rfl ?_
  exact ⟨(by repeat (first | assumption | exact Ext.refl _ | refine Ext.alloc ?_ _ | refine Ext.drew ?_ | refine Ext.setB ?_ (by first | omega | (simp only [size_alloc, size_setB, size_drew]; omega)) _ | refine Ext.trans ?_ (by assumption))), _, rfl⟩

set_option maxRecDepth 10000 in
theorem below_spec (W : List Int) (n : Int) (w : World) (hW : Wd W) : Ret Hvad.prog 257 #[.agg (ic .u64 W), .int .u64 n] w fun u w' => Ext w w' ∧ ∃ x q, u = .tuple #[.int .u64 x, .bool q] ∧ (0 ≤ x ∧ x ≤ 18446744073709551615) ∧ (q = true → x < n) := by
  have hWl := hW.1
  have hb := wv_bd hW
  refine Ret_of_W Hvad.func257 rfl rfl ?_
  refine W_seq ?_
  refine W_region rfl ?_
  refine WO_box (.agg _) rfl ?_
  refine WO_p (PS_assign_int rfl) ?_
  refine WO_p (PS_assign_bool rfl) ?_
  refine WO_nil ?_
  refine thn_normal ?_
  refine W_seq ?_
  refine W_region rfl ?_
  refine WO_loadA _ Hvad.isAgg59 Hvad.sizeOf59 rfl (Hb.h (by repeat (first | assumption | exact Hb.newY _ _ | refine Hb.alloc ?_ | refine Hb.drew ?_ | refine Hb.ext (by assumption) ?_ | exact Hb.setSameL (by first | omega | (simp only [size_alloc, size_setB, size_drew]; omega)) | exact Hb.setSame (by assumption) | refine Hb.set (by first | omega | (simp only [size_alloc, size_setB, size_drew]; omega)) ?_ ))) (by first | omega | assumption | rfl | decide | exact Nat.le_refl _ | (simp only [size_ic, Value.cells]; omega) | simp) (Xt.h (by first | assumption | exact Xt.whole rfl rfl | exact Xt.whole rfl (by simp only [size_ic, Value.cells]; omega) | exact ⟨rfl⟩)) ?_
  refine WO_call Hvad.call196 (by rfl) (Ret.mono (u64_spec _ _ (by assumption)) ?_)
  rintro _ w196_0 ⟨rfl, hE196_0⟩
  have hz196_0 := hE196_0.1
  try simp only [size_alloc, size_setB, size_drew] at hz196_0
  refine WO_p (PS_move_tuple rfl) ?_
  refine WO_p (PS_extract_int rfl rfl) ?_
  refine WO_p (PS_extract_bool rfl rfl) ?_
  refine WO_p (PS_assign_int rfl) ?_
  refine WO_p (PS_assign_bool rfl) ?_
  refine WO_nil ?_
  refine thn_normal ?_
  refine W_seq ?_
  refine W_region rfl ?_
  refine WO_p (PS_move_int rfl) ?_
  refine WO_p (PS_move_bool rfl) ?_
  refine WO_p (PS_move_bool rfl) ?_
  refine WO_if (t := 15) rfl (fun hb3 => ?_) (fun hb3 => ?_)
  · have hb3p := hb3.h; try simp only [al_ete, al_dfn, Bool.not_eq_true', Bool.not_eq_false', al_ne, Bool.not_not, al_nn] at hb3p
    refine WO_guardT rfl rfl hb3.h ?_
    refine WO_p (PS_move_int rfl) ?_
    refine WO_guardT rfl rfl hb3.h ?_
    refine WO_p (PS_move_int rfl) ?_
    refine WO_guardT rfl rfl hb3.h ?_
    refine WO_p (PS_lss rfl rfl) ?_
    refine WO_p (PS_pickT rfl hb3.h rfl) ?_
    refine WO_p (PS_assign_int rfl) ?_
    refine WO_p (PS_assign_bool rfl) ?_
    refine WO_nil ?_
    refine thn_normal ?_
    refine W_ret ?_
    refine bodyQ_ret2 Hvad.results257 rfl rfl (.int _ _) (.bool _) rfl rfl ?_
    have hx : 0 ≤ (if wv W < 18446744073709551616 then wv W else 0) ∧ (if wv W < 18446744073709551616 then wv W else 0) ≤ 18446744073709551615 := by split <;> omega
    first
    | exact ⟨(by repeat (first | assumption | exact Ext.refl _ | refine Ext.alloc ?_ _ | refine Ext.drew ?_ | refine Ext.setB ?_ (by first | omega | (simp only [size_alloc, size_setB, size_drew]; omega)) _ | refine Ext.trans ?_ (by assumption))), _, _, rfl, hx, fun h => of_decide_eq_true h⟩
    | exact ⟨(by repeat (first | assumption | exact Ext.refl _ | refine Ext.alloc ?_ _ | refine Ext.drew ?_ | refine Ext.setB ?_ (by first | omega | (simp only [size_alloc, size_setB, size_drew]; omega)) _ | refine Ext.trans ?_ (by assumption))), _, _, rfl, hx, fun h => by cases h⟩
  · have hb3p := hb3.h; try simp only [al_ete, al_dfn, Bool.not_eq_true', Bool.not_eq_false', al_ne, Bool.not_not, al_nn] at hb3p
    refine WO_guardF rfl rfl hb3.h ?_
    refine WO_guardF rfl rfl hb3.h ?_
    refine WO_guardF rfl rfl hb3.h ?_
    refine WO_p (PS_pickF rfl hb3.h rfl) ?_
    refine WO_p (PS_assign_int rfl) ?_
    refine WO_p (PS_assign_bool rfl) ?_
    refine WO_nil ?_
    refine thn_normal ?_
    refine W_ret ?_
    refine bodyQ_ret2 Hvad.results257 rfl rfl (.int _ _) (.bool _) rfl rfl ?_
    have hx : 0 ≤ (if wv W < 18446744073709551616 then wv W else 0) ∧ (if wv W < 18446744073709551616 then wv W else 0) ≤ 18446744073709551615 := by split <;> omega
    first
    | exact ⟨(by repeat (first | assumption | exact Ext.refl _ | refine Ext.alloc ?_ _ | refine Ext.drew ?_ | refine Ext.setB ?_ (by first | omega | (simp only [size_alloc, size_setB, size_drew]; omega)) _ | refine Ext.trans ?_ (by assumption))), _, _, rfl, hx, fun h => of_decide_eq_true h⟩
    | exact ⟨(by repeat (first | assumption | exact Ext.refl _ | refine Ext.alloc ?_ _ | refine Ext.drew ?_ | refine Ext.setB ?_ (by first | omega | (simp only [size_alloc, size_setB, size_drew]; omega)) _ | refine Ext.trans ?_ (by assumption))), _, _, rfl, hx, fun h => by cases h⟩

set_option maxRecDepth 10000 in
theorem limbs_spec (W : List Int) (w : World) (hW : Wd W) : Ret Hvad.prog 148 #[.agg (ic .u64 W)] w fun u w' => Ext w w' ∧ ∃ n : Nat, u = .int .u8 n ∧ n ≤ 4 ∧ (0 < n → W.getD (n - 1) 0 ≠ 0) := by
  have hWl := hW.1
  refine Ret_of_W Hvad.func148 rfl rfl ?_
  refine W_seq ?_
  refine W_region rfl ?_
  refine WO_box (.agg _) rfl ?_
  refine WO_p (PS_assign_int rfl) ?_
  refine WO_nil ?_
  refine thn_normal ?_
  refine W_seq ?_
  refine W_region rfl ?_
  refine WO_p (PS_assign_int rfl) ?_
  refine WO_nil ?_
  refine thn_normal ?_
  refine W_seq ?_
  refine W_block ?_
  refine W_loopN (fun m ρ w' => m ≤ 4 ∧ Fr [(1, .pointer (some ⟨w.heap.size, 0, none⟩)), (3, .int .u8 m)] ρ ∧ Ext w w' ∧ Hb w' w.heap.size (.cells (ic .u64 W) 59 (0, 0))) 4 ?_ ?_
  · exact ⟨Nat.le_refl _, ⟨rfl, rfl, trivial⟩, Ext.alloc (Ext.refl w) _, Hb.newY _ _⟩
  intro m ρ w2 hI
  obtain ⟨hm4, hF, hE2, hB2⟩ := hI
  refine W_env _ hF ?_
  refine W_seq ?_
  refine W_seq ?_
  refine W_region rfl ?_
  refine WO_p (PS_move_int rfl) ?_
  refine WO_p (PS_gtr rfl rfl) ?_
  refine WO_p (PS_move_bool rfl) ?_
  refine WO_if (t := 6) rfl (fun hb2 => ?_) (fun hb2 => ?_)
  · have hb2p := hb2.h; try simp only [al_ete, al_dfn, Bool.not_eq_true', Bool.not_eq_false', al_ne, Bool.not_not, al_nn] at hb2p
    have hce : Ce (ic .u64 W) (0 + ((m:Int) - 1).toNat * 1) (.int .u64 (W.getD ((m:Int) - 1).toNat 0)) := ce_ic (by omega)
    refine WO_guardT rfl rfl hb2.h ?_
    refine WO_p (PS_move_int rfl) ?_
    refine WO_guardT rfl rfl hb2.h ?_
    refine WO_p (PS_sub_u8n rfl rfl (by omega) (by omega)) ?_
    refine WO_guardT rfl rfl hb2.h ?_
    refine WO_p (PS_indexA Hvad.runUnderlying59 Hvad.sizeOf26 rfl rfl (by omega) (by omega)) ?_
    refine WO_guardT rfl rfl hb2.h ?_
    refine WO_load (.int _ _) Hvad.isAgg26 rfl (Hb.h (by repeat (first | assumption | exact Hb.newY _ _ | refine Hb.alloc ?_ | refine Hb.drew ?_ | refine Hb.ext (by assumption) ?_ | exact Hb.setSameL (by first | omega | (simp only [size_alloc, size_setB, size_drew]; omega)) | exact Hb.setSame (by assumption) | refine Hb.set (by first | omega | (simp only [size_alloc, size_setB, size_drew]; omega)) ?_ ))) (Ce.h (by first | assumption | exact ⟨rfl⟩)) ?_
    refine WO_guardT rfl rfl hb2.h ?_
    refine WO_p (PS_eql rfl rfl) ?_
    refine WO_p (PS_pickT rfl hb2.h rfl) ?_
    refine WO_nil ?_
    refine thn_normal ?_
    refine W_if rfl (fun hb4 => ?_) (fun hb4 => ?_)
    · have hb4p := hb4.h; try simp only [al_ete, al_dfn, Bool.not_eq_true', Bool.not_eq_false', al_ne, Bool.not_not, al_nn] at hb4p
      have h12 := hb4p
      refine W_skip ?_
      refine thn_normal ?_
      refine W_block ?_
      refine W_region rfl ?_
      refine WO_p (PS_move_int rfl) ?_
      refine WO_p (PS_sub_u8n rfl rfl (by omega) (by omega)) ?_
      refine WO_p (PS_assign_int rfl) ?_
      refine WO_nil ?_
      refine inBlk_normal ?_
      refine thn_normal ?_
      exact ⟨m - 1, by omega, by omega, ⟨rfl, congrArg (Value.int .u8) (by omega), trivial⟩, hE2, hB2⟩
    · have hb4p := hb4.h; try simp only [al_ete, al_dfn, Bool.not_eq_true', Bool.not_eq_false', al_ne, Bool.not_not, al_nn] at hb4p
      have h12 := hb4p
      have hm1 : ((m:Int) - 1).toNat = m - 1 := by omega
      rw [hm1] at h12
      refine W_exit ?_
      refine thn_exit ?_
      refine thn_exit ?_
      refine inBlk_exit ?_
      refine thn_normal ?_
      refine W_seq ?_
      refine W_region rfl ?_
      refine WO_p (PS_move_int rfl) ?_
      refine WO_p (PS_assign_int rfl) ?_
      refine WO_nil ?_
      refine thn_normal ?_
      refine W_ret ?_
      refine bodyQ_ret1 Hvad.results148 rfl (.int _ _) rfl ?_
      first
      | exact ⟨hE2, m, rfl, hm4, fun _ => h12⟩
      | exact ⟨hE2, m, rfl, hm4, fun h => by omega⟩
  · have hb2p := hb2.h; try simp only [al_ete, al_dfn, Bool.not_eq_true', Bool.not_eq_false', al_ne, Bool.not_not, al_nn] at hb2p
    have hm0 : m = 0 := by omega
    refine WO_guardF rfl rfl hb2.h ?_
    refine WO_guardF rfl rfl hb2.h ?_
    refine WO_guardF rfl rfl hb2.h ?_
    refine WO_guardF rfl rfl hb2.h ?_
    refine WO_guardF rfl rfl hb2.h ?_
    refine WO_p (PS_pickF rfl hb2.h rfl) ?_
    refine WO_nil ?_
    refine thn_normal ?_
    refine W_condF rfl rfl ?_
    refine W_exit ?_
    refine thn_exit ?_
    refine thn_exit ?_
    refine inBlk_exit ?_
    refine thn_normal ?_
    refine W_seq ?_
    refine W_region rfl ?_
    refine WO_p (PS_move_int rfl) ?_
    refine WO_p (PS_assign_int rfl) ?_
    refine WO_nil ?_
    refine thn_normal ?_
    refine W_ret ?_
    refine bodyQ_ret1 Hvad.results148 rfl (.int _ _) rfl ?_
    first
    | exact ⟨hE2, m, rfl, hm4, fun _ => h12⟩
    | exact ⟨hE2, m, rfl, hm4, fun h => by omega⟩

set_option maxRecDepth 10000 in
theorem byte_spec (W X : List Int) (w : World) (hW : Wd W) (hX : Wd X) : Ret Hvad.prog 184 #[.agg (ic .u64 W), .agg (ic .u64 X)] w fun u w' => Ext w w' ∧ ∃ R, u = .agg (ic .u64 R) ∧ Wd R := by
  have hWl := hW.1
  have hXl := hX.1
  refine Ret_of_W Hvad.func184 rfl rfl ?_
  refine W_seq ?_
  refine W_region rfl ?_
  refine WO_box (.agg _) rfl ?_
  refine WO_box (.agg _) rfl ?_
  refine WO_alloc Hvad.zeroValue59 ?_
  refine WO_nil ?_
  refine thn_normal ?_
  refine W_seq ?_
  refine W_region rfl ?_
  refine WO_loadA _ Hvad.isAgg59 Hvad.sizeOf59 rfl (Hb.h (by repeat (first | assumption | exact Hb.newY _ _ | refine Hb.alloc ?_ | refine Hb.drew ?_ | refine Hb.ext (by assumption) ?_ | exact Hb.setSameL (by first | omega | (simp only [size_alloc, size_setB, size_drew]; omega)) | exact Hb.setSame (by assumption) | refine Hb.set (by first | omega | (simp only [size_alloc, size_setB, size_drew]; omega)) ?_ ))) (by first | omega | assumption | rfl | decide | exact Nat.le_refl _ | (simp only [size_ic, Value.cells]; omega) | simp) (Xt.h (by first | assumption | exact Xt.whole rfl rfl | exact Xt.whole rfl (by simp only [size_ic, Value.cells]; omega) | exact ⟨rfl⟩)) ?_
  refine WO_call Hvad.call257 (by rfl) (Ret.mono (below_spec W 32 _ hW) ?_)
  rintro _ w1 ⟨hE1, x, q, rfl, hx, hq⟩
  have hz1 := hE1.1
  simp only [size_alloc] at hz1
  refine WO_p (PS_move_tuple rfl) ?_
  refine WO_p (PS_extract_int rfl rfl) ?_
  refine WO_p (PS_extract_bool rfl rfl) ?_
  refine WO_p (PS_assign_int rfl) ?_
  refine WO_p (PS_assign_bool rfl) ?_
  refine WO_nil ?_
  refine thn_normal ?_
  refine W_seq ?_
  refine W_seq ?_
  refine W_region rfl ?_
  refine WO_p (PS_move_bool rfl) ?_
  refine WO_p (PS_not rfl) ?_
  refine WO_nil ?_
  refine thn_normal ?_
  refine W_if rfl (fun hb4 => ?_) (fun hb4 => ?_)
  · have hb4p := hb4.h; try simp only [al_ete, al_dfn, Bool.not_eq_true', Bool.not_eq_false', al_ne, Bool.not_not, al_nn] at hb4p
    refine W_seq ?_
    refine W_region rfl ?_
    refine WO_p (PS_buildI (k := .u64) (zs := [0, 0, 0, 0]) (ps := []) (L := [0, 0, 0, 0]) Hvad.zeroValue59 Hvad.runUnderlying59 Hvad.sizeOf26 rfl rfl rfl rfl) ?_
    first | refine WO_storeW Hvad.sizeOf59 rfl (v := .agg _) rfl (Hb.h (by repeat (first | assumption | exact Hb.newY _ _ | refine Hb.alloc ?_ | refine Hb.drew ?_ | refine Hb.ext (by assumption) ?_ | exact Hb.setSameL (by first | omega | (simp only [size_alloc, size_setB, size_drew]; omega)) | exact Hb.setSame (by assumption) | refine Hb.set (by first | omega | (simp only [size_alloc, size_setB, size_drew]; omega)) ?_ ))) rfl (by first | omega | assumption | rfl | decide | exact Nat.le_refl _ | (simp only [size_ic, Value.cells]; omega) | simp) (by first | omega | assumption | rfl | decide | exact Nat.le_refl _ | (simp only [size_ic, Value.cells]; omega) | simp) (by first | exact oneCell_ic | assumption) ?_ | refine WO_store Hvad.sizeOf59 rfl (v := .agg _) rfl (Hb.h (by repeat (first | assumption | exact Hb.newY _ _ | refine Hb.alloc ?_ | refine Hb.drew ?_ | refine Hb.ext (by assumption) ?_ | exact Hb.setSameL (by first | omega | (simp only [size_alloc, size_setB, size_drew]; omega)) | exact Hb.setSame (by assumption) | refine Hb.set (by first | omega | (simp only [size_alloc, size_setB, size_drew]; omega)) ?_ ))) (by first | omega | assumption | rfl | decide | exact Nat.le_refl _ | (simp only [size_ic, Value.cells]; omega) | simp) (by first | omega | assumption | rfl | decide | exact Nat.le_refl _ | (simp only [size_ic, Value.cells]; omega) | simp) (by first | exact oneCell_ic | assumption) ?_
    refine WO_nil ?_
    refine thn_normal ?_
    refine W_ret ?_
    refine thn_ret ?_
    refine bodyQ_cell1 Hvad.results184 rfl Hvad.isAgg59 Hvad.sizeOf59 rfl (Hb.h (by repeat (first | assumption | exact Hb.newY _ _ | refine Hb.alloc ?_ | refine Hb.drew ?_ | refine Hb.ext (by assumption) ?_ | exact Hb.setSameL (by first | omega | (simp only [size_alloc, size_setB, size_drew]; omega)) | exact Hb.setSame (by assumption) | refine Hb.set (by first | omega | (simp only [size_alloc, size_setB, size_drew]; omega)) ?_ ))) (by first | omega | assumption | rfl | decide | exact Nat.le_refl _ | (simp only [size_ic, Value.cells]; omega) | simp) ?_
    exact ⟨(by repeat (first | assumption | exact Ext.refl _ | refine Ext.alloc ?_ _ | refine Ext.drew ?_ | refine Ext.setB ?_ (by first | omega | (simp only [size_alloc, size_setB, size_drew]; omega)) _ | refine Ext.trans ?_ (by assumption))), _, rfl, by first | exact Wd0 | exact wd1 (bAnd_bd _ _)⟩
  · have hb4p := hb4.h; try simp only [al_ete, al_dfn, Bool.not_eq_true', Bool.not_eq_false', al_ne, Bool.not_not, al_nn] at hb4p
    have hx32 := hq hb4p
    have hce : Ce (ic .u64 X) (0 + (3 - x / 8).toNat * 1) (.int .u64 (X.getD (3 - x / 8).toNat 0)) := ce_ic (by omega)
    refine W_skip ?_
    refine thn_normal ?_
    refine W_seq ?_
    refine W_region rfl ?_
    refine WO_p (PS_move_int rfl) ?_
    refine WO_p (PS_quo_u64 rfl rfl (by omega) (by omega) (by omega)) ?_
    refine WO_p (PS_sub_u64n rfl rfl (by omega) (by omega)) ?_
    refine WO_p (PS_indexA Hvad.runUnderlying59 Hvad.sizeOf26 rfl rfl (by omega) (by omega)) ?_
    refine WO_load (.int _ _) Hvad.isAgg26 rfl (Hb.h (by repeat (first | assumption | exact Hb.newY _ _ | refine Hb.alloc ?_ | refine Hb.drew ?_ | refine Hb.ext (by assumption) ?_ | exact Hb.setSameL (by first | omega | (simp only [size_alloc, size_setB, size_drew]; omega)) | exact Hb.setSame (by assumption) | refine Hb.set (by first | omega | (simp only [size_alloc, size_setB, size_drew]; omega)) ?_ ))) (Ce.h (by first | assumption | exact ⟨rfl⟩)) ?_
    refine WO_p (PS_move_int rfl) ?_
    refine WO_p (PS_rem_u64 rfl rfl (by omega) (by omega)) ?_
    refine WO_p (PS_mul_u64n rfl rfl (by omega) (by omega)) ?_
    refine WO_p (PS_sub_u64n rfl rfl (by omega) (by omega)) ?_
    refine WO_p (PS_shr_u64 _ rfl rfl (by omega) rfl) ?_
    refine WO_p (PS_and_u64 rfl rfl) ?_
    refine WO_p (PS_buildI (k := .u64) (zs := [0, 0, 0, 0]) (ps := [(0, _)]) (L := [_, 0, 0, 0]) Hvad.zeroValue59 Hvad.runUnderlying59 Hvad.sizeOf26 rfl rfl rfl rfl) ?_
    first | refine WO_storeW Hvad.sizeOf59 rfl (v := .agg _) rfl (Hb.h (by repeat (first | assumption | exact Hb.newY _ _ | refine Hb.alloc ?_ | refine Hb.drew ?_ | refine Hb.ext (by assumption) ?_ | exact Hb.setSameL (by first | omega | (simp only [size_alloc, size_setB, size_drew]; omega)) | exact Hb.setSame (by assumption) | refine Hb.set (by first | omega | (simp only [size_alloc, size_setB, size_drew]; omega)) ?_ ))) rfl (by first | omega | assumption | rfl | decide | exact Nat.le_refl _ | (simp only [size_ic, Value.cells]; omega) | simp) (by first | omega | assumption | rfl | decide | exact Nat.le_refl _ | (simp only [size_ic, Value.cells]; omega) | simp) (by first | exact oneCell_ic | assumption) ?_ | refine WO_store Hvad.sizeOf59 rfl (v := .agg _) rfl (Hb.h (by repeat (first | assumption | exact Hb.newY _ _ | refine Hb.alloc ?_ | refine Hb.drew ?_ | refine Hb.ext (by assumption) ?_ | exact Hb.setSameL (by first | omega | (simp only [size_alloc, size_setB, size_drew]; omega)) | exact Hb.setSame (by assumption) | refine Hb.set (by first | omega | (simp only [size_alloc, size_setB, size_drew]; omega)) ?_ ))) (by first | omega | assumption | rfl | decide | exact Nat.le_refl _ | (simp only [size_ic, Value.cells]; omega) | simp) (by first | omega | assumption | rfl | decide | exact Nat.le_refl _ | (simp only [size_ic, Value.cells]; omega) | simp) (by first | exact oneCell_ic | assumption) ?_
    refine WO_nil ?_
    refine thn_normal ?_
    refine W_ret ?_
    refine bodyQ_cell1 Hvad.results184 rfl Hvad.isAgg59 Hvad.sizeOf59 rfl (Hb.h (by repeat (first | assumption | exact Hb.newY _ _ | refine Hb.alloc ?_ | refine Hb.drew ?_ | refine Hb.ext (by assumption) ?_ | exact Hb.setSameL (by first | omega | (simp only [size_alloc, size_setB, size_drew]; omega)) | exact Hb.setSame (by assumption) | refine Hb.set (by first | omega | (simp only [size_alloc, size_setB, size_drew]; omega)) ?_ ))) (by first | omega | assumption | rfl | decide | exact Nat.le_refl _ | (simp only [size_ic, Value.cells]; omega) | simp) ?_
    exact ⟨(by repeat (first | assumption | exact Ext.refl _ | refine Ext.alloc ?_ _ | refine Ext.drew ?_ | refine Ext.setB ?_ (by first | omega | (simp only [size_alloc, size_setB, size_drew]; omega)) _ | refine Ext.trans ?_ (by assumption))), _, rfl, by first | exact Wd0 | exact wd1 (bAnd_bd _ _)⟩

end Go.Proofs.YgvadwGreat
