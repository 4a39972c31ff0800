import Derived.Test.YgvadwGreatUr
namespace Go.Proofs.YgvadwGreat
set_option linter.unusedSimpArgs false
set_option linter.unusedVariables false

set_option maxRecDepth 10000 in
set_option maxHeartbeats 4000000 in
theorem modExp_spec (bb1 be bm : Nat) (Tb Te Tm : TypeId) (A E Y : List Int) (w : World) (hA : Hb w bb1 (.cells (ic .u64 A) Tb (0, 0))) (hE : Hb w be (.cells (ic .u64 E) Te (0, 0))) (hM : Hb w bm (.cells (ic .u64 Y) Tm (0, 0))) (hal : A.length = 8) (hel : E.length = 8) (hyl : Y.length = 8) (hAL : UL A) (hEL : UL E) (hYL : UL Y) : Ret Hvad.prog 158 #[.pointer (some ⟨bb1, 0, none⟩), .pointer (some ⟨be, 0, none⟩), .pointer (some ⟨bm, 0, none⟩)] w fun u w' => Ext w w' ∧ ∃ R, u = .agg (ic .u64 R) ∧ R.length = 8 ∧ UL R := by
  have hbal := hA.lt
  have hbel := hE.lt
  have hbml := hM.lt
  have hUL1 : UL [1, 0, 0, 0, 0, 0, 0, 0, 0, 0, 0, 0, 0, 0, 0, 0] := by unfold UL; decide
  have hUL0 : UL [0, 0, 0, 0, 0, 0, 0, 0, 0, 0, 0, 0, 0, 0, 0, 0] := by unfold UL; decide
  refine Ret_of_W Hvad.func158 rfl rfl ?_
  refine W_seq ?_
  refine W_region rfl ?_
  refine WO_allocG Hvad.zeroValue224 ?_
  intro b6 v6 hg6 hE6 hH6 hl6
  try simp only [size_alloc, size_setB, size_drew] at hg6
  have hzz6 := hE6.1
  try simp only [size_alloc, size_setB, size_drew] at hzz6
  replace hH6 : Hb v6 b6 (.cells (ic .u64 (List.replicate 8 0)) 224 (0, 0)) := hH6
  refine WO_nil ?_
  refine thn_normal ?_
  refine W_seq ?_
  refine W_region rfl ?_
  refine WO_p (PS_buildI (k := .u64) (zs := [0, 0, 0, 0, 0, 0, 0, 0, 0, 0, 0, 0, 0, 0, 0, 0]) (ps := [(0, _)]) (L := [_, 0, 0, 0, 0, 0, 0, 0, 0, 0, 0, 0, 0, 0, 0, 0]) Hvad.zeroValue279 Hvad.runUnderlying279 Hvad.sizeOf26 rfl rfl rfl rfl) ?_
  refine WO_allocG Hvad.zeroValue279 ?_
  intro b7 v7 hg7 hE7 hH7 hl7
  try simp only [size_alloc, size_setB, size_drew] at hg7
  have hzz7 := hE7.1
  try simp only [size_alloc, size_setB, size_drew] at hzz7
  replace hH7 : Hb v7 b7 (.cells (ic .u64 (List.replicate 16 0)) 279 (0, 0)) := hH7
  refine WO_storeW Hvad.sizeOf279 rfl (v := .agg _) rfl (Hb.h (by repeat (first | assumption | exact Hb.newY _ _ | refine Hb.alloc ?_ | refine Hb.drew ?_ | refine Hb.ext (by assumption) ?_ | exact Hb.setSameL (by first | omega | (simp only [size_alloc, size_setB, size_drew]; omega)) | exact Hb.setSame (by assumption) | refine Hb.set (by first | omega | (simp only [size_alloc, size_setB, size_drew]; omega)) ?_ ))) rfl (by rfl) (by rfl) oneCell_ic ?_
  change WO _ _ _ _ _ (setB _ _ (.cells (ic .u64 [1, 0, 0, 0, 0, 0, 0, 0, 0, 0, 0, 0, 0, 0, 0, 0]) 279 (0, 0)))
  refine WO_nil ?_
  refine thn_normal ?_
  refine W_seq ?_
  refine W_region rfl ?_
  refine WO_p (PS_move_ptr rfl) ?_
  refine WO_call Hvad.call238 (by rfl) (Ret.mono (rem1024_spec b7 bm 279 Tm [1, 0, 0, 0, 0, 0, 0, 0, 0, 0, 0, 0, 0, 0, 0, 0] Y _ (Hb.mk (Hb.h (by repeat (first | assumption | exact Hb.newY _ _ | refine Hb.alloc ?_ | refine Hb.drew ?_ | refine Hb.ext (by assumption) ?_ | exact Hb.setSameL (by first | omega | (simp only [size_alloc, size_setB, size_drew]; omega)) | exact Hb.setSame (by assumption) | refine Hb.set (by first | omega | (simp only [size_alloc, size_setB, size_drew]; omega)) ?_ )))) (Hb.mk (Hb.h (by repeat (first | assumption | exact Hb.newY _ _ | refine Hb.alloc ?_ | refine Hb.drew ?_ | refine Hb.ext (by assumption) ?_ | exact Hb.setSameL (by first | omega | (simp only [size_alloc, size_setB, size_drew]; omega)) | exact Hb.setSame (by assumption) | refine Hb.set (by first | omega | (simp only [size_alloc, size_setB, size_drew]; omega)) ?_ )))) rfl hyl hUL1 hYL) ?_)
  rintro _ w2 ⟨hE2, R2, p2, rfl, hR2, hRL2, hp2⟩
  have hz2 := hE2.1
  try simp only [size_alloc, size_setB, size_drew] at hz2
  have hRs2 : (Value.agg (ic .u64 R2)).cells.size = 8 := by simp only [Value.cells, size_ic]; exact hR2
  have hps2 : (Value.agg (ic .u8 p2)).cells.size = 3 := by simp only [Value.cells, size_ic]; exact hp2
  refine WO_p (PS_move_tuple rfl) ?_
  refine WO_p (PS_extract_agg rfl rfl) ?_
  refine WO_p (PS_extract_agg rfl rfl) ?_
  refine WO_allocG Hvad.zeroValue224 ?_
  intro b8 v8 hg8 hE8 hH8 hl8
  try simp only [size_alloc, size_setB, size_drew] at hg8
  have hzz8 := hE8.1
  try simp only [size_alloc, size_setB, size_drew] at hzz8
  replace hH8 : Hb v8 b8 (.cells (ic .u64 (List.replicate 8 0)) 224 (0, 0)) := hH8
  refine WO_allocG Hvad.zeroValue281 ?_
  intro b9 v9 hg9 hE9 hH9 hl9
  try simp only [size_alloc, size_setB, size_drew] at hg9
  have hzz9 := hE9.1
  try simp only [size_alloc, size_setB, size_drew] at hzz9
  replace hH9 : Hb v9 b9 (.cells (ic .u8 [0, 0, 0]) 281 (0, 0)) := hH9
  first | (refine WO_storeW Hvad.sizeOf224 rfl (v := .agg _) rfl (Hb.h (by repeat (first | assumption | exact Hb.newY _ _ | refine Hb.alloc ?_ | refine Hb.drew ?_ | refine Hb.ext (by assumption) ?_ | exact Hb.setSameL (by first | omega | (simp only [size_alloc, size_setB, size_drew]; omega)) | exact Hb.setSame (by assumption) | refine Hb.set (by first | omega | (simp only [size_alloc, size_setB, size_drew]; omega)) ?_ ))) rfl hRs2 (by first | rfl | (simp only [size_ic]; omega)) oneCell_ic ?_; change WO _ _ _ _ _ (setB _ _ (.cells (ic .u64 R2) 224 (0, 0)))) | (refine WO_storeW Hvad.sizeOf281 rfl (v := .agg _) rfl (Hb.h (by repeat (first | assumption | exact Hb.newY _ _ | refine Hb.alloc ?_ | refine Hb.drew ?_ | refine Hb.ext (by assumption) ?_ | exact Hb.setSameL (by first | omega | (simp only [size_alloc, size_setB, size_drew]; omega)) | exact Hb.setSame (by assumption) | refine Hb.set (by first | omega | (simp only [size_alloc, size_setB, size_drew]; omega)) ?_ ))) rfl hps2 (by first | rfl | (simp only [size_ic]; omega)) oneCell_ic ?_; change WO _ _ _ _ _ (setB _ _ (.cells (ic .u8 p2) 281 (0, 0))))
  first | (refine WO_storeW Hvad.sizeOf224 rfl (v := .agg _) rfl (Hb.h (by repeat (first | assumption | exact Hb.newY _ _ | refine Hb.alloc ?_ | refine Hb.drew ?_ | refine Hb.ext (by assumption) ?_ | exact Hb.setSameL (by first | omega | (simp only [size_alloc, size_setB, size_drew]; omega)) | exact Hb.setSame (by assumption) | refine Hb.set (by first | omega | (simp only [size_alloc, size_setB, size_drew]; omega)) ?_ ))) rfl hRs2 (by first | rfl | (simp only [size_ic]; omega)) oneCell_ic ?_; change WO _ _ _ _ _ (setB _ _ (.cells (ic .u64 R2) 224 (0, 0)))) | (refine WO_storeW Hvad.sizeOf281 rfl (v := .agg _) rfl (Hb.h (by repeat (first | assumption | exact Hb.newY _ _ | refine Hb.alloc ?_ | refine Hb.drew ?_ | refine Hb.ext (by assumption) ?_ | exact Hb.setSameL (by first | omega | (simp only [size_alloc, size_setB, size_drew]; omega)) | exact Hb.setSame (by assumption) | refine Hb.set (by first | omega | (simp only [size_alloc, size_setB, size_drew]; omega)) ?_ ))) rfl hps2 (by first | rfl | (simp only [size_ic]; omega)) oneCell_ic ?_; change WO _ _ _ _ _ (setB _ _ (.cells (ic .u8 p2) 281 (0, 0))))
  refine WO_nil ?_
  refine thn_normal ?_
  refine W_seq ?_
  refine W_region rfl ?_
  refine WO_p (PS_buildI (k := .u64) (zs := [0, 0, 0, 0, 0, 0, 0, 0, 0, 0, 0, 0, 0, 0, 0, 0]) (ps := []) (L := [0, 0, 0, 0, 0, 0, 0, 0, 0, 0, 0, 0, 0, 0, 0, 0]) Hvad.zeroValue279 Hvad.runUnderlying279 Hvad.sizeOf26 rfl rfl rfl rfl) ?_
  refine WO_allocG Hvad.zeroValue279 ?_
  intro b10 v10 hg10 hE10 hH10 hl10
  try simp only [size_alloc, size_setB, size_drew] at hg10
  have hzz10 := hE10.1
  try simp only [size_alloc, size_setB, size_drew] at hzz10
  replace hH10 : Hb v10 b10 (.cells (ic .u64 (List.replicate 16 0)) 279 (0, 0)) := hH10
  refine WO_storeW Hvad.sizeOf279 rfl (v := .agg _) rfl (Hb.h (by repeat (first | assumption | exact Hb.newY _ _ | refine Hb.alloc ?_ | refine Hb.drew ?_ | refine Hb.ext (by assumption) ?_ | exact Hb.setSameL (by first | omega | (simp only [size_alloc, size_setB, size_drew]; omega)) | exact Hb.setSame (by assumption) | refine Hb.set (by first | omega | (simp only [size_alloc, size_setB, size_drew]; omega)) ?_ ))) rfl (by rfl) (by rfl) oneCell_ic ?_
  change WO _ _ _ _ _ (setB _ _ (.cells (ic .u64 [0, 0, 0, 0, 0, 0, 0, 0, 0, 0, 0, 0, 0, 0, 0, 0]) 279 (0, 0)))
  refine WO_nil ?_
  refine thn_normal ?_
  refine W_seq ?_
  refine W_drawE [false, false, false, false, false] hmix (by kernel_rfl) rfl ?_
  refine WH_p (PS_slA Hvad.runUnderlying279 Hvad.sizeOf26 rfl (by omega)) rfl ?_
  refine WH_p (PS_move_ptr rfl) rfl ?_
  refine WH_p (PS_nilCheck rfl) rfl ?_
  refine WH_p (PS_slA Hvad.runUnderlying224 Hvad.sizeOf26 rfl (by omega)) rfl ?_
  refine WH_copyU (b := b10) (T := 279) (L := [0, 0, 0, 0, 0, 0, 0, 0, 0, 0, 0, 0, 0, 0, 0, 0]) (b2 := bb1) (L2 := A) Hvad.runUnderlying194 Hvad.sizeOf26 rfl rfl (Hb.mk (Hb.h (by repeat (first | assumption | exact Hb.newY _ _ | refine Hb.alloc ?_ | refine Hb.drew ?_ | refine Hb.ext (by assumption) ?_ | exact Hb.setSameL (by first | omega | (simp only [size_alloc, size_setB, size_drew]; omega)) | exact Hb.setSame (by assumption) | refine Hb.set (by first | omega | (simp only [size_alloc, size_setB, size_drew]; omega)) ?_ )))) (Hb.mk (Hb.h (by repeat (first | assumption | exact Hb.newY _ _ | refine Hb.alloc ?_ | refine Hb.drew ?_ | refine Hb.ext (by assumption) ?_ | exact Hb.setSameL (by first | omega | (simp only [size_alloc, size_setB, size_drew]; omega)) | exact Hb.setSame (by assumption) | refine Hb.set (by first | omega | (simp only [size_alloc, size_setB, size_drew]; omega)) ?_ )))) (by omega) (by decide) hal hAL ?_
  intro w4 U4 hU4
  have hz4 := hU4.keep.sz
  try simp only [size_alloc, size_setB, size_drew] at hz4
  have hUL4 := hU4.ty hUL0
  have hu4 : U4.length = 16 := hU4.len
  have hE4' : Ext w w4 := hU4.ext1 (by repeat (first | assumption | exact Ext.refl _ | refine Ext.alloc ?_ _ | refine Ext.drew ?_ | refine Ext.setB ?_ (by first | omega | (simp only [size_alloc, size_setB, size_drew]; omega)) _ | exact Ext.trans (by assumption) (by assumption) | refine Ext.trans ?_ (by assumption))) (by omega)
  have hb64 := hU4.other (Hb.mk (Hb.h (by repeat (first | assumption | exact Hb.newY _ _ | refine Hb.alloc ?_ | refine Hb.drew ?_ | refine Hb.ext (by assumption) ?_ | exact Hb.setSameL (by first | omega | (simp only [size_alloc, size_setB, size_drew]; omega)) | exact Hb.setSame (by assumption) | refine Hb.set (by first | omega | (simp only [size_alloc, size_setB, size_drew]; omega)) ?_ ))) : Hb _ b6 (.cells (ic .u64 (List.replicate 8 0)) 224 (0, 0))) (by omega)
  have hb84 := hU4.other (Hb.mk (Hb.h (by repeat (first | assumption | exact Hb.newY _ _ | refine Hb.alloc ?_ | refine Hb.drew ?_ | refine Hb.ext (by assumption) ?_ | exact Hb.setSameL (by first | omega | (simp only [size_alloc, size_setB, size_drew]; omega)) | exact Hb.setSame (by assumption) | refine Hb.set (by first | omega | (simp only [size_alloc, size_setB, size_drew]; omega)) ?_ ))) : Hb _ b8 (.cells (ic .u64 R2) 224 (0, 0))) (by omega)
  have hb104 := hU4.hb
  refine ⟨(fun h => by cases h), ?_⟩
  refine WH_nil ?_
  refine thn_normal ?_
  refine W_seq ?_
  refine W_region rfl ?_
  refine WO_p (PS_move_ptr rfl) ?_
  refine WO_call Hvad.call238 (by rfl) (Ret.mono (rem1024_spec b10 bm 279 Tm U4 Y _ (Hb.mk (Hb.h (by repeat (first | assumption | exact Hb.newY _ _ | refine Hb.alloc ?_ | refine Hb.drew ?_ | refine Hb.ext (by assumption) ?_ | exact Hb.setSameL (by first | omega | (simp only [size_alloc, size_setB, size_drew]; omega)) | exact Hb.setSame (by assumption) | refine Hb.set (by first | omega | (simp only [size_alloc, size_setB, size_drew]; omega)) ?_ )))) (Hb.mk (Hb.h (by repeat (first | assumption | exact Hb.newY _ _ | refine Hb.alloc ?_ | refine Hb.drew ?_ | refine Hb.ext (by assumption) ?_ | exact Hb.setSameL (by first | omega | (simp only [size_alloc, size_setB, size_drew]; omega)) | exact Hb.setSame (by assumption) | refine Hb.set (by first | omega | (simp only [size_alloc, size_setB, size_drew]; omega)) ?_ )))) hu4 hyl hUL4 hYL) ?_)
  rintro _ w5 ⟨hE5, R5, p5, rfl, hR5, hRL5, hp5⟩
  have hz5 := hE5.1
  try simp only [size_alloc, size_setB, size_drew] at hz5
  have hRs5 : (Value.agg (ic .u64 R5)).cells.size = 8 := by simp only [Value.cells, size_ic]; exact hR5
  have hps5 : (Value.agg (ic .u8 p5)).cells.size = 3 := by simp only [Value.cells, size_ic]; exact hp5
  refine WO_p (PS_move_tuple rfl) ?_
  refine WO_p (PS_extract_agg rfl rfl) ?_
  refine WO_p (PS_extract_agg rfl rfl) ?_
  refine WO_allocG Hvad.zeroValue224 ?_
  intro b11 v11 hg11 hE11 hH11 hl11
  try simp only [size_alloc, size_setB, size_drew] at hg11
  have hzz11 := hE11.1
  try simp only [size_alloc, size_setB, size_drew] at hzz11
  replace hH11 : Hb v11 b11 (.cells (ic .u64 (List.replicate 8 0)) 224 (0, 0)) := hH11
  refine WO_allocG Hvad.zeroValue281 ?_
  intro b12 v12 hg12 hE12 hH12 hl12
  try simp only [size_alloc, size_setB, size_drew] at hg12
  have hzz12 := hE12.1
  try simp only [size_alloc, size_setB, size_drew] at hzz12
  replace hH12 : Hb v12 b12 (.cells (ic .u8 [0, 0, 0]) 281 (0, 0)) := hH12
  first | (refine WO_storeW Hvad.sizeOf224 rfl (v := .agg _) rfl (Hb.h (by repeat (first | assumption | exact Hb.newY _ _ | refine Hb.alloc ?_ | refine Hb.drew ?_ | refine Hb.ext (by assumption) ?_ | exact Hb.setSameL (by first | omega | (simp only [size_alloc, size_setB, size_drew]; omega)) | exact Hb.setSame (by assumption) | refine Hb.set (by first | omega | (simp only [size_alloc, size_setB, size_drew]; omega)) ?_ ))) rfl hRs5 (by first | rfl | (simp only [size_ic]; omega)) oneCell_ic ?_; change WO _ _ _ _ _ (setB _ _ (.cells (ic .u64 R5) 224 (0, 0)))) | (refine WO_storeW Hvad.sizeOf281 rfl (v := .agg _) rfl (Hb.h (by repeat (first | assumption | exact Hb.newY _ _ | refine Hb.alloc ?_ | refine Hb.drew ?_ | refine Hb.ext (by assumption) ?_ | exact Hb.setSameL (by first | omega | (simp only [size_alloc, size_setB, size_drew]; omega)) | exact Hb.setSame (by assumption) | refine Hb.set (by first | omega | (simp only [size_alloc, size_setB, size_drew]; omega)) ?_ ))) rfl hps5 (by first | rfl | (simp only [size_ic]; omega)) oneCell_ic ?_; change WO _ _ _ _ _ (setB _ _ (.cells (ic .u8 p5) 281 (0, 0))))
  first | (refine WO_storeW Hvad.sizeOf224 rfl (v := .agg _) rfl (Hb.h (by repeat (first | assumption | exact Hb.newY _ _ | refine Hb.alloc ?_ | refine Hb.drew ?_ | refine Hb.ext (by assumption) ?_ | exact Hb.setSameL (by first | omega | (simp only [size_alloc, size_setB, size_drew]; omega)) | exact Hb.setSame (by assumption) | refine Hb.set (by first | omega | (simp only [size_alloc, size_setB, size_drew]; omega)) ?_ ))) rfl hRs5 (by first | rfl | (simp only [size_ic]; omega)) oneCell_ic ?_; change WO _ _ _ _ _ (setB _ _ (.cells (ic .u64 R5) 224 (0, 0)))) | (refine WO_storeW Hvad.sizeOf281 rfl (v := .agg _) rfl (Hb.h (by repeat (first | assumption | exact Hb.newY _ _ | refine Hb.alloc ?_ | refine Hb.drew ?_ | refine Hb.ext (by assumption) ?_ | exact Hb.setSameL (by first | omega | (simp only [size_alloc, size_setB, size_drew]; omega)) | exact Hb.setSame (by assumption) | refine Hb.set (by first | omega | (simp only [size_alloc, size_setB, size_drew]; omega)) ?_ ))) rfl hps5 (by first | rfl | (simp only [size_ic]; omega)) oneCell_ic ?_; change WO _ _ _ _ _ (setB _ _ (.cells (ic .u8 p5) 281 (0, 0))))
  refine WO_nil ?_
  refine thn_normal ?_
  refine W_seq ?_
  refine W_region rfl ?_
  refine WO_p (PS_assign_bool rfl) ?_
  refine WO_nil ?_
  refine thn_normal ?_
  refine W_seq ?_
  refine W_seq ?_
  refine W_region rfl ?_
  refine WO_p (PS_assign_int rfl) ?_
  refine WO_nil ?_
  refine thn_normal ?_
  refine W_block ?_
  refine W_loopN (fun m ρ w' => ∃ (i : Nat) (z : Bool) (R8 : List Int), i = m ∧ i ≤ 512 ∧ R8.length = 8 ∧ UL R8 ∧ Fr [(0, .pointer (some ⟨bb1, 0, none⟩)), (1, .pointer (some ⟨be, 0, none⟩)), (2, .pointer (some ⟨bm, 0, none⟩)), (6, .pointer (some ⟨b6, 0, none⟩)), (8, .pointer (some ⟨b8, 0, none⟩)), (11, .pointer (some ⟨b11, 0, none⟩)), (13, .bool z), (14, .int .u64 i)] ρ ∧ Ext w w' ∧ v12.heap.size ≤ w'.heap.size ∧ Hb w' b6 (.cells (ic .u64 (List.replicate 8 0)) 224 (0, 0)) ∧ Hb w' b8 (.cells (ic .u64 R8) 224 (0, 0)) ∧ Hb w' b11 (.cells (ic .u64 R5) 224 (0, 0))) 512 ?_ ?_
  · exact ⟨512, false, R2, rfl, by omega, hR2, hRL2, ⟨rfl, rfl, rfl, rfl, rfl, rfl, rfl, rfl, trivial⟩, (by repeat (first | assumption | exact Ext.refl _ | refine Ext.alloc ?_ _ | refine Ext.drew ?_ | refine Ext.setB ?_ (by first | omega | (simp only [size_alloc, size_setB, size_drew]; omega)) _ | refine Ext.trans ?_ (by assumption))), by first | omega | (simp only [size_setB]; omega), Hb.mk (Hb.h (by repeat (first | assumption | exact Hb.newY _ _ | refine Hb.alloc ?_ | refine Hb.drew ?_ | refine Hb.ext (by assumption) ?_ | exact Hb.setSameL (by first | omega | (simp only [size_alloc, size_setB, size_drew]; omega)) | exact Hb.setSame (by assumption) | refine Hb.set (by first | omega | (simp only [size_alloc, size_setB, size_drew]; omega)) ?_ ))), Hb.mk (Hb.h (by repeat (first | assumption | exact Hb.newY _ _ | refine Hb.alloc ?_ | refine Hb.drew ?_ | refine Hb.ext (by assumption) ?_ | exact Hb.setSameL (by first | omega | (simp only [size_alloc, size_setB, size_drew]; omega)) | exact Hb.setSame (by assumption) | refine Hb.set (by first | omega | (simp only [size_alloc, size_setB, size_drew]; omega)) ?_ ))), Hb.mk (Hb.h (by repeat (first | assumption | exact Hb.newY _ _ | refine Hb.alloc ?_ | refine Hb.drew ?_ | refine Hb.ext (by assumption) ?_ | exact Hb.setSameL (by first | omega | (simp only [size_alloc, size_setB, size_drew]; omega)) | exact Hb.setSame (by assumption) | refine Hb.set (by first | omega | (simp only [size_alloc, size_setB, size_drew]; omega)) ?_ )))⟩
  intro m ρ w8 hI
  obtain ⟨i, z, R8, him, hi5, hr8, hRL8, hF8, hE8', hz8v, hb68, hb88, hb118⟩ := hI
  refine W_env _ hF8 ?_
  have hz8 := hE8'.1
  refine W_seq ?_
  refine W_seq ?_
  refine W_region rfl ?_
  refine WO_p (PS_move_int rfl) ?_
  refine WO_p (PS_gtr rfl rfl) ?_
  refine WO_nil ?_
  refine thn_normal ?_
  refine W_if rfl (fun hb4 => ?_) (fun hb4 => ?_)
  · have hb4p := hb4.h; try simp only [al_ete, al_dfn, Bool.not_eq_true', Bool.not_eq_false', al_ne, Bool.not_not, al_nn] at hb4p
    refine W_skip ?_
    refine thn_normal ?_
    refine W_seq ?_
    refine W_block ?_
    refine W_seqJ (fun ρ w' => ∃ R9, R9.length = 8 ∧ UL R9 ∧ Fr [(0, .pointer (some ⟨bb1, 0, none⟩)), (1, .pointer (some ⟨be, 0, none⟩)), (2, .pointer (some ⟨bm, 0, none⟩)), (6, .pointer (some ⟨b6, 0, none⟩)), (8, .pointer (some ⟨b8, 0, none⟩)), (11, .pointer (some ⟨b11, 0, none⟩)), (13, .bool z), (14, .int .u64 i)] ρ ∧ Ext w w' ∧ v12.heap.size ≤ w'.heap.size ∧ Hb w' b6 (.cells (ic .u64 (List.replicate 8 0)) 224 (0, 0)) ∧ Hb w' b8 (.cells (ic .u64 R9) 224 (0, 0)) ∧ Hb w' b11 (.cells (ic .u64 R5) 224 (0, 0))) ?_ ?_
    · skip
      refine W_seq ?_
      refine W_region rfl ?_
      refine WO_p (PS_move_bool rfl) ?_
      refine WO_nil ?_
      refine thn_normal ?_
      refine W_if rfl (fun hb6 => ?_) (fun hb6 => ?_)
      · have hb6p := hb6.h; try simp only [al_ete, al_dfn, Bool.not_eq_true', Bool.not_eq_false', al_ne, Bool.not_not, al_nn] at hb6p
        refine W_seq ?_
        refine W_region rfl ?_
        refine WO_call Hvad.call239 (by rfl) (Ret.mono (mul1024_spec b8 b8 224 224 R8 R8 _ (Hb.mk (Hb.h (by repeat (first | assumption | exact Hb.newY _ _ | refine Hb.alloc ?_ | refine Hb.drew ?_ | refine Hb.ext (by assumption) ?_ | exact Hb.setSameL (by first | omega | (simp only [size_alloc, size_setB, size_drew]; omega)) | exact Hb.setSame (by assumption) | refine Hb.set (by first | omega | (simp only [size_alloc, size_setB, size_drew]; omega)) ?_ )))) (Hb.mk (Hb.h (by repeat (first | assumption | exact Hb.newY _ _ | refine Hb.alloc ?_ | refine Hb.drew ?_ | refine Hb.ext (by assumption) ?_ | exact Hb.setSameL (by first | omega | (simp only [size_alloc, size_setB, size_drew]; omega)) | exact Hb.setSame (by assumption) | refine Hb.set (by first | omega | (simp only [size_alloc, size_setB, size_drew]; omega)) ?_ )))) hr8 hr8 hRL8 hRL8) ?_)
        rintro _ w11 ⟨hE11, Q11, rfl, hQ11, hQL11⟩
        have hz11 := hE11.1
        try simp only [size_alloc, size_setB, size_drew] at hz11
        have hQs11 : (Value.agg (ic .u64 Q11)).cells.size = 16 := by simp only [Value.cells, size_ic]; exact hQ11
        refine WO_allocG Hvad.zeroValue279 ?_
        intro b15 v15 hg15 hE15 hH15 hl15
        try simp only [size_alloc, size_setB, size_drew] at hg15
        have hzz15 := hE15.1
        try simp only [size_alloc, size_setB, size_drew] at hzz15
        replace hH15 : Hb v15 b15 (.cells (ic .u64 (List.replicate 16 0)) 279 (0, 0)) := hH15
        refine WO_storeW Hvad.sizeOf279 rfl (v := .agg _) rfl (Hb.h (by repeat (first | assumption | exact Hb.newY _ _ | refine Hb.alloc ?_ | refine Hb.drew ?_ | refine Hb.ext (by assumption) ?_ | exact Hb.setSameL (by first | omega | (simp only [size_alloc, size_setB, size_drew]; omega)) | exact Hb.setSame (by assumption) | refine Hb.set (by first | omega | (simp only [size_alloc, size_setB, size_drew]; omega)) ?_ ))) rfl hQs11 (by first | rfl | (simp only [size_ic]; omega)) oneCell_ic ?_
        change WO _ _ _ _ _ (setB _ _ (.cells (ic .u64 Q11) 279 (0, 0)))
        refine WO_nil ?_
        refine thn_normal ?_
        refine W_region rfl ?_
        refine WO_p (PS_move_ptr rfl) ?_
        refine WO_call Hvad.call238 (by rfl) (Ret.mono (rem1024_spec b15 bm 279 Tm Q11 Y _ (Hb.mk (Hb.h (by repeat (first | assumption | exact Hb.newY _ _ | refine Hb.alloc ?_ | refine Hb.drew ?_ | refine Hb.ext (by assumption) ?_ | exact Hb.setSameL (by first | omega | (simp only [size_alloc, size_setB, size_drew]; omega)) | exact Hb.setSame (by assumption) | refine Hb.set (by first | omega | (simp only [size_alloc, size_setB, size_drew]; omega)) ?_ )))) (Hb.mk (Hb.h (by repeat (first | assumption | exact Hb.newY _ _ | refine Hb.alloc ?_ | refine Hb.drew ?_ | refine Hb.ext (by assumption) ?_ | exact Hb.setSameL (by first | omega | (simp only [size_alloc, size_setB, size_drew]; omega)) | exact Hb.setSame (by assumption) | refine Hb.set (by first | omega | (simp only [size_alloc, size_setB, size_drew]; omega)) ?_ )))) hQ11 hyl hQL11 hYL) ?_)
        rintro _ w12 ⟨hE12, R12, p12, rfl, hR12, hRL12, hp12⟩
        have hz12 := hE12.1
        try simp only [size_alloc, size_setB, size_drew] at hz12
        have hRs12 : (Value.agg (ic .u64 R12)).cells.size = 8 := by simp only [Value.cells, size_ic]; exact hR12
        have hps12 : (Value.agg (ic .u8 p12)).cells.size = 3 := by simp only [Value.cells, size_ic]; exact hp12
        refine WO_p (PS_move_tuple rfl) ?_
        refine WO_p (PS_extract_agg rfl rfl) ?_
        refine WO_p (PS_extract_agg rfl rfl) ?_
        refine WO_storeW Hvad.sizeOf224 rfl (v := .agg _) rfl (Hb.h (by repeat (first | assumption | exact Hb.newY _ _ | refine Hb.alloc ?_ | refine Hb.drew ?_ | refine Hb.ext (by assumption) ?_ | exact Hb.setSameL (by first | omega | (simp only [size_alloc, size_setB, size_drew]; omega)) | exact Hb.setSame (by assumption) | refine Hb.set (by first | omega | (simp only [size_alloc, size_setB, size_drew]; omega)) ?_ ))) rfl hRs12 (by first | rfl | (simp only [size_ic]; omega)) oneCell_ic ?_
        change WO _ _ _ _ _ (setB _ _ (.cells (ic .u64 R12) 224 (0, 0)))
        refine WO_nil ?_
        refine thn_normal ?_
        exact ⟨R12, hR12, hRL12, ⟨rfl, rfl, rfl, rfl, rfl, rfl, rfl, rfl, trivial⟩, (by repeat (first | assumption | exact Ext.refl _ | refine Ext.alloc ?_ _ | refine Ext.drew ?_ | refine Ext.setB ?_ (by first | omega | (simp only [size_alloc, size_setB, size_drew]; omega)) _ | exact Ext.trans (by assumption) (by assumption) | refine Ext.trans ?_ (by assumption))), by first | omega | (simp only [size_setB]; omega), Hb.mk (Hb.h (by repeat (first | assumption | exact Hb.newY _ _ | refine Hb.alloc ?_ | refine Hb.drew ?_ | refine Hb.ext (by assumption) ?_ | exact Hb.setSameL (by first | omega | (simp only [size_alloc, size_setB, size_drew]; omega)) | exact Hb.setSame (by assumption) | refine Hb.set (by first | omega | (simp only [size_alloc, size_setB, size_drew]; omega)) ?_ ))), Hb.mk (Hb.h (by repeat (first | assumption | exact Hb.newY _ _ | refine Hb.alloc ?_ | refine Hb.drew ?_ | refine Hb.ext (by assumption) ?_ | exact Hb.setSameL (by first | omega | (simp only [size_alloc, size_setB, size_drew]; omega)) | exact Hb.setSame (by assumption) | refine Hb.set (by first | omega | (simp only [size_alloc, size_setB, size_drew]; omega)) ?_ ))), Hb.mk (Hb.h (by repeat (first | assumption | exact Hb.newY _ _ | refine Hb.alloc ?_ | refine Hb.drew ?_ | refine Hb.ext (by assumption) ?_ | exact Hb.setSameL (by first | omega | (simp only [size_alloc, size_setB, size_drew]; omega)) | exact Hb.setSame (by assumption) | refine Hb.set (by first | omega | (simp only [size_alloc, size_setB, size_drew]; omega)) ?_ )))⟩
      · have hb6p := hb6.h; try simp only [al_ete, al_dfn, Bool.not_eq_true', Bool.not_eq_false', al_ne, Bool.not_not, al_nn] at hb6p
        refine W_skip ?_
        refine thn_normal ?_
        exact ⟨R8, hr8, hRL8, ⟨rfl, rfl, rfl, rfl, rfl, rfl, rfl, rfl, trivial⟩, (by repeat (first | assumption | exact Ext.refl _ | refine Ext.alloc ?_ _ | refine Ext.drew ?_ | refine Ext.setB ?_ (by first | omega | (simp only [size_alloc, size_setB, size_drew]; omega)) _ | exact Ext.trans (by assumption) (by assumption) | refine Ext.trans ?_ (by assumption))), by omega, Hb.mk (Hb.h (by repeat (first | assumption | exact Hb.newY _ _ | refine Hb.alloc ?_ | refine Hb.drew ?_ | refine Hb.ext (by assumption) ?_ | exact Hb.setSameL (by first | omega | (simp only [size_alloc, size_setB, size_drew]; omega)) | exact Hb.setSame (by assumption) | refine Hb.set (by first | omega | (simp only [size_alloc, size_setB, size_drew]; omega)) ?_ ))), Hb.mk (Hb.h (by repeat (first | assumption | exact Hb.newY _ _ | refine Hb.alloc ?_ | refine Hb.drew ?_ | refine Hb.ext (by assumption) ?_ | exact Hb.setSameL (by first | omega | (simp only [size_alloc, size_setB, size_drew]; omega)) | exact Hb.setSame (by assumption) | refine Hb.set (by first | omega | (simp only [size_alloc, size_setB, size_drew]; omega)) ?_ ))), Hb.mk (Hb.h (by repeat (first | assumption | exact Hb.newY _ _ | refine Hb.alloc ?_ | refine Hb.drew ?_ | refine Hb.ext (by assumption) ?_ | exact Hb.setSameL (by first | omega | (simp only [size_alloc, size_setB, size_drew]; omega)) | exact Hb.setSame (by assumption) | refine Hb.set (by first | omega | (simp only [size_alloc, size_setB, size_drew]; omega)) ?_ )))⟩
    · rintro ρ w13 ⟨R9, hR9, hRL9, hF13, hE13', hz13v, hb613, hb813, hb1113⟩
      refine W_env _ hF13 ?_
      have hz13 := hE13'.1
      have hce : Ce (ic .u64 E) (0 + (((i : Int) - 1) / 64).toNat * 1) (.int .u64 (E.getD ((i - 1) / 64) 0)) := by rw [show (((i : Int) - 1) / 64).toNat = (i - 1) / 64 by omega]; exact ce_ic (by omega)
      refine W_seq ?_
      refine W_region rfl ?_
      refine WO_p (PS_move_ptr rfl) ?_
      refine WO_p (PS_move_int rfl) ?_
      refine WO_p (PS_sub_u64n rfl rfl (by omega) (by omega)) ?_
      refine WO_p (PS_quo_u64 rfl rfl (by omega) (by omega) (by omega)) ?_
      refine WO_p (PS_nilCheck rfl) ?_
      refine WO_p (PS_indexA Hvad.runUnderlying224 Hvad.sizeOf26 rfl rfl (by omega) (by omega)) ?_
      refine WO_load (.int _ _) Hvad.isAgg26 rfl (Hb.h (by repeat (first | assumption | exact Hb.newY _ _ | refine Hb.alloc ?_ | refine Hb.drew ?_ | refine Hb.ext (by assumption) ?_ | exact Hb.setSameL (by first | omega | (simp only [size_alloc, size_setB, size_drew]; omega)) | exact Hb.setSame (by assumption) | refine Hb.set (by first | omega | (simp only [size_alloc, size_setB, size_drew]; omega)) ?_ ))) (Ce.h (by first | assumption | exact ⟨rfl⟩)) ?_
      refine WO_p (PS_move_int rfl) ?_
      refine WO_p (PS_sub_u64n rfl rfl (by omega) (by omega)) ?_
      refine WO_p (PS_rem_u64 rfl rfl (by omega) (by omega)) ?_
      refine WO_p (PS_shr_u64 _ rfl rfl (by omega) rfl) ?_
      refine WO_p (PS_and_u64 rfl rfl) ?_
      refine WO_p (PS_eql rfl rfl) ?_
      refine WO_nil ?_
      refine thn_normal ?_
      refine W_if rfl (fun hb10 => ?_) (fun hb10 => ?_)
      · have hb10p := hb10.h; try simp only [al_ete, al_dfn, Bool.not_eq_true', Bool.not_eq_false', al_ne, Bool.not_not, al_nn] at hb10p
        refine W_seq ?_
        refine W_region rfl ?_
        refine WO_call Hvad.call239 (by rfl) (Ret.mono (mul1024_spec b8 b11 224 224 R9 R5 _ (Hb.mk (Hb.h (by repeat (first | assumption | exact Hb.newY _ _ | refine Hb.alloc ?_ | refine Hb.drew ?_ | refine Hb.ext (by assumption) ?_ | exact Hb.setSameL (by first | omega | (simp only [size_alloc, size_setB, size_drew]; omega)) | exact Hb.setSame (by assumption) | refine Hb.set (by first | omega | (simp only [size_alloc, size_setB, size_drew]; omega)) ?_ )))) (Hb.mk (Hb.h (by repeat (first | assumption | exact Hb.newY _ _ | refine Hb.alloc ?_ | refine Hb.drew ?_ | refine Hb.ext (by assumption) ?_ | exact Hb.setSameL (by first | omega | (simp only [size_alloc, size_setB, size_drew]; omega)) | exact Hb.setSame (by assumption) | refine Hb.set (by first | omega | (simp only [size_alloc, size_setB, size_drew]; omega)) ?_ )))) hR9 hR5 hRL9 hRL5) ?_)
        rintro _ w14 ⟨hE14, Q14, rfl, hQ14, hQL14⟩
        have hz14 := hE14.1
        try simp only [size_alloc, size_setB, size_drew] at hz14
        have hQs14 : (Value.agg (ic .u64 Q14)).cells.size = 16 := by simp only [Value.cells, size_ic]; exact hQ14
        refine WO_allocG Hvad.zeroValue279 ?_
        intro b16 v16 hg16 hE16 hH16 hl16
        try simp only [size_alloc, size_setB, size_drew] at hg16
        have hzz16 := hE16.1
        try simp only [size_alloc, size_setB, size_drew] at hzz16
        replace hH16 : Hb v16 b16 (.cells (ic .u64 (List.replicate 16 0)) 279 (0, 0)) := hH16
        refine WO_storeW Hvad.sizeOf279 rfl (v := .agg _) rfl (Hb.h (by repeat (first | assumption | exact Hb.newY _ _ | refine Hb.alloc ?_ | refine Hb.drew ?_ | refine Hb.ext (by assumption) ?_ | exact Hb.setSameL (by first | omega | (simp only [size_alloc, size_setB, size_drew]; omega)) | exact Hb.setSame (by assumption) | refine Hb.set (by first | omega | (simp only [size_alloc, size_setB, size_drew]; omega)) ?_ ))) rfl hQs14 (by first | rfl | (simp only [size_ic]; omega)) oneCell_ic ?_
        change WO _ _ _ _ _ (setB _ _ (.cells (ic .u64 Q14) 279 (0, 0)))
        refine WO_nil ?_
        refine thn_normal ?_
        refine W_seq ?_
        refine W_region rfl ?_
        refine WO_p (PS_move_ptr rfl) ?_
        refine WO_call Hvad.call238 (by rfl) (Ret.mono (rem1024_spec b16 bm 279 Tm Q14 Y _ (Hb.mk (Hb.h (by repeat (first | assumption | exact Hb.newY _ _ | refine Hb.alloc ?_ | refine Hb.drew ?_ | refine Hb.ext (by assumption) ?_ | exact Hb.setSameL (by first | omega | (simp only [size_alloc, size_setB, size_drew]; omega)) | exact Hb.setSame (by assumption) | refine Hb.set (by first | omega | (simp only [size_alloc, size_setB, size_drew]; omega)) ?_ )))) (Hb.mk (Hb.h (by repeat (first | assumption | exact Hb.newY _ _ | refine Hb.alloc ?_ | refine Hb.drew ?_ | refine Hb.ext (by assumption) ?_ | exact Hb.setSameL (by first | omega | (simp only [size_alloc, size_setB, size_drew]; omega)) | exact Hb.setSame (by assumption) | refine Hb.set (by first | omega | (simp only [size_alloc, size_setB, size_drew]; omega)) ?_ )))) hQ14 hyl hQL14 hYL) ?_)
        rintro _ w15 ⟨hE15, R15, p15, rfl, hR15, hRL15, hp15⟩
        have hz15 := hE15.1
        try simp only [size_alloc, size_setB, size_drew] at hz15
        have hRs15 : (Value.agg (ic .u64 R15)).cells.size = 8 := by simp only [Value.cells, size_ic]; exact hR15
        have hps15 : (Value.agg (ic .u8 p15)).cells.size = 3 := by simp only [Value.cells, size_ic]; exact hp15
        refine WO_p (PS_move_tuple rfl) ?_
        refine WO_p (PS_extract_agg rfl rfl) ?_
        refine WO_p (PS_extract_agg rfl rfl) ?_
        refine WO_storeW Hvad.sizeOf224 rfl (v := .agg _) rfl (Hb.h (by repeat (first | assumption | exact Hb.newY _ _ | refine Hb.alloc ?_ | refine Hb.drew ?_ | refine Hb.ext (by assumption) ?_ | exact Hb.setSameL (by first | omega | (simp only [size_alloc, size_setB, size_drew]; omega)) | exact Hb.setSame (by assumption) | refine Hb.set (by first | omega | (simp only [size_alloc, size_setB, size_drew]; omega)) ?_ ))) rfl hRs15 (by first | rfl | (simp only [size_ic]; omega)) oneCell_ic ?_
        change WO _ _ _ _ _ (setB _ _ (.cells (ic .u64 R15) 224 (0, 0)))
        refine WO_nil ?_
        refine thn_normal ?_
        refine W_region rfl ?_
        refine WO_p (PS_assign_bool rfl) ?_
        refine WO_nil ?_
        refine inBlk_normal ?_
        refine thn_normal ?_
        refine W_region rfl ?_
        refine WO_p (PS_move_int rfl) ?_
        refine WO_p (PS_sub_u64n rfl rfl (by omega) (by omega)) ?_
        refine WO_p (PS_assign_int rfl) ?_
        refine WO_nil ?_
        refine thn_normal ?_
        exact ⟨m - 1, by omega, i - 1, true, R15, by omega, by omega, hR15, hRL15, ⟨rfl, rfl, rfl, rfl, rfl, rfl, rfl, congrArg (Value.int .u64) (by omega), trivial⟩, (by repeat (first | assumption | exact Ext.refl _ | refine Ext.alloc ?_ _ | refine Ext.drew ?_ | refine Ext.setB ?_ (by first | omega | (simp only [size_alloc, size_setB, size_drew]; omega)) _ | exact Ext.trans (by assumption) (by assumption) | refine Ext.trans ?_ (by assumption))), by first | omega | (simp only [size_setB]; omega), Hb.mk (Hb.h (by repeat (first | assumption | exact Hb.newY _ _ | refine Hb.alloc ?_ | refine Hb.drew ?_ | refine Hb.ext (by assumption) ?_ | exact Hb.setSameL (by first | omega | (simp only [size_alloc, size_setB, size_drew]; omega)) | exact Hb.setSame (by assumption) | refine Hb.set (by first | omega | (simp only [size_alloc, size_setB, size_drew]; omega)) ?_ ))), Hb.mk (Hb.h (by repeat (first | assumption | exact Hb.newY _ _ | refine Hb.alloc ?_ | refine Hb.drew ?_ | refine Hb.ext (by assumption) ?_ | exact Hb.setSameL (by first | omega | (simp only [size_alloc, size_setB, size_drew]; omega)) | exact Hb.setSame (by assumption) | refine Hb.set (by first | omega | (simp only [size_alloc, size_setB, size_drew]; omega)) ?_ ))), Hb.mk (Hb.h (by repeat (first | assumption | exact Hb.newY _ _ | refine Hb.alloc ?_ | refine Hb.drew ?_ | refine Hb.ext (by assumption) ?_ | exact Hb.setSameL (by first | omega | (simp only [size_alloc, size_setB, size_drew]; omega)) | exact Hb.setSame (by assumption) | refine Hb.set (by first | omega | (simp only [size_alloc, size_setB, size_drew]; omega)) ?_ )))⟩
      · have hb10p := hb10.h; try simp only [al_ete, al_dfn, Bool.not_eq_true', Bool.not_eq_false', al_ne, Bool.not_not, al_nn] at hb10p
        refine W_skip ?_
        refine inBlk_normal ?_
        refine thn_normal ?_
        refine W_region rfl ?_
        refine WO_p (PS_move_int rfl) ?_
        refine WO_p (PS_sub_u64n rfl rfl (by omega) (by omega)) ?_
        refine WO_p (PS_assign_int rfl) ?_
        refine WO_nil ?_
        refine thn_normal ?_
        exact ⟨m - 1, by omega, i - 1, z, R9, by omega, by omega, hR9, hRL9, ⟨rfl, rfl, rfl, rfl, rfl, rfl, rfl, congrArg (Value.int .u64) (by omega), trivial⟩, (by repeat (first | assumption | exact Ext.refl _ | refine Ext.alloc ?_ _ | refine Ext.drew ?_ | refine Ext.setB ?_ (by first | omega | (simp only [size_alloc, size_setB, size_drew]; omega)) _ | exact Ext.trans (by assumption) (by assumption) | refine Ext.trans ?_ (by assumption))), by first | omega | (simp only [size_setB]; omega), Hb.mk (Hb.h (by repeat (first | assumption | exact Hb.newY _ _ | refine Hb.alloc ?_ | refine Hb.drew ?_ | refine Hb.ext (by assumption) ?_ | exact Hb.setSameL (by first | omega | (simp only [size_alloc, size_setB, size_drew]; omega)) | exact Hb.setSame (by assumption) | refine Hb.set (by first | omega | (simp only [size_alloc, size_setB, size_drew]; omega)) ?_ ))), Hb.mk (Hb.h (by repeat (first | assumption | exact Hb.newY _ _ | refine Hb.alloc ?_ | refine Hb.drew ?_ | refine Hb.ext (by assumption) ?_ | exact Hb.setSameL (by first | omega | (simp only [size_alloc, size_setB, size_drew]; omega)) | exact Hb.setSame (by assumption) | refine Hb.set (by first | omega | (simp only [size_alloc, size_setB, size_drew]; omega)) ?_ ))), Hb.mk (Hb.h (by repeat (first | assumption | exact Hb.newY _ _ | refine Hb.alloc ?_ | refine Hb.drew ?_ | refine Hb.ext (by assumption) ?_ | exact Hb.setSameL (by first | omega | (simp only [size_alloc, size_setB, size_drew]; omega)) | exact Hb.setSame (by assumption) | refine Hb.set (by first | omega | (simp only [size_alloc, size_setB, size_drew]; omega)) ?_ )))⟩
  · have hb4p := hb4.h; try simp only [al_ete, al_dfn, Bool.not_eq_true', Bool.not_eq_false', al_ne, Bool.not_not, al_nn] at hb4p
    refine W_exit ?_
    refine thn_exit ?_
    refine thn_exit ?_
    refine inBlk_exit ?_
    refine thn_normal ?_
    refine W_seq ?_
    have hpx : Xt (ic .u64 R8) 0 (0 + 8) (ic .u64 R8) := Xt.whole rfl (by rw [size_ic]; omega)
    have hps8 : (Value.agg (ic .u64 R8)).cells.size = 8 := by simp only [Value.cells, size_ic]; omega
    refine W_region rfl ?_
    refine WO_loadA _ Hvad.isAgg224 Hvad.sizeOf224 rfl (Hb.h (by repeat (first | assumption | exact Hb.newY _ _ | refine Hb.alloc ?_ | refine Hb.drew ?_ | refine Hb.ext (by assumption) ?_ | exact Hb.setSameL (by first | omega | (simp only [size_alloc, size_setB, size_drew]; omega)) | exact Hb.setSame (by assumption) | refine Hb.set (by first | omega | (simp only [size_alloc, size_setB, size_drew]; omega)) ?_ ))) (by first | omega | assumption | rfl | decide | exact Nat.le_refl _ | (simp only [size_ic, Value.cells]; omega) | simp) (Xt.h (by first | assumption | exact Xt.whole rfl rfl | exact Xt.whole rfl (by simp only [size_ic, Value.cells]; omega) | exact ⟨rfl⟩)) ?_
    refine WO_storeW Hvad.sizeOf224 rfl (v := .agg _) rfl (Hb.h (by repeat (first | assumption | exact Hb.newY _ _ | refine Hb.alloc ?_ | refine Hb.drew ?_ | refine Hb.ext (by assumption) ?_ | exact Hb.setSameL (by first | omega | (simp only [size_alloc, size_setB, size_drew]; omega)) | exact Hb.setSame (by assumption) | refine Hb.set (by first | omega | (simp only [size_alloc, size_setB, size_drew]; omega)) ?_ ))) rfl (by simp only [size_ic, Value.cells]; omega) (by first | rfl | (simp only [size_ic]; omega)) oneCell_ic ?_
    refine WO_nil ?_
    refine thn_normal ?_
    refine W_ret ?_
    refine bodyQ_cell1 Hvad.results158 rfl Hvad.isAgg224 Hvad.sizeOf224 rfl (Hb.h (by repeat (first | assumption | exact Hb.newY _ _ | refine Hb.alloc ?_ | refine Hb.drew ?_ | refine Hb.ext (by assumption) ?_ | exact Hb.setSameL (by first | omega | (simp only [size_alloc, size_setB, size_drew]; omega)) | exact Hb.setSame (by assumption) | refine Hb.set (by first | omega | (simp only [size_alloc, size_setB, size_drew]; omega)) ?_ ))) (by first | omega | assumption | rfl | decide | exact Nat.le_refl _ | (simp only [size_ic, Value.cells]; omega) | simp) ?_
    exact ⟨(by repeat (first | assumption | exact Ext.refl _ | refine Ext.alloc ?_ _ | refine Ext.drew ?_ | refine Ext.setB ?_ (by first | omega | (simp only [size_alloc, size_setB, size_drew]; omega)) _ | refine Ext.trans ?_ (by assumption))), R8, rfl, hr8, hRL8⟩

end Go.Proofs.YgvadwGreat
