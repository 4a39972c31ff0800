import Derived.Test.YgvadwGreatUq
namespace Go.Proofs.YgvadwGreat
set_option linter.unusedSimpArgs false
set_option linter.unusedVariables false
theorem BufT.ext1 {b : Nat} {T : TypeId} {L L' : List Int} {w0 w w' : World} (h : BufT b T L w w' L') (he : Ext w0 w) (hb : w0.heap.size ≤ b) : Ext w0 w' := h.ext he hb

set_option maxRecDepth 10000 in
set_option maxHeartbeats 4000000 in
theorem rem1024_spec (bx bm : Nat) (Tx Tm : TypeId) (X Y : List Int) (w : World) (hX : Hb w bx (.cells (ic .u64 X) Tx (0, 0))) (hM : Hb w bm (.cells (ic .u64 Y) Tm (0, 0))) (hxl : X.length = 16) (hyl : Y.length = 8) (hXL : UL X) (hYL : UL Y) : Ret Hvad.prog 238 #[.pointer (some ⟨bx, 0, none⟩), .pointer (some ⟨bm, 0, none⟩)] w fun u w' => Ext w w' ∧ ∃ R p, u = .tuple #[.agg (ic .u64 R), .agg (ic .u8 p)] ∧ R.length = 8 ∧ UL R ∧ p.length = 3 := by
  have hbxl := hX.lt
  have hbml := hM.lt
  have hx8 : (X.take 8).length = 8 := by simp [hxl]
  have hxt8 : Xt (ic .u64 X) 0 (0 + 8) (ic .u64 (X.take 8)) := by have h := Xt.ic .u64 X 0 8 (by omega); rwa [List.drop_zero] at h
  have hr17 : (List.replicate 17 (0 : Int)).length = 17 := by simp
  have hr8l : (List.replicate 8 (0 : Int)).length = 8 := by simp
  have hxs : (Value.agg (ic .u64 (X.take 8))).cells.size = 8 := by simp only [Value.cells, size_ic]; exact hx8
  have hceY0 : Ce (ic .u64 Y) (0 + (0 : Int).toNat * 1) (.int .u64 (Y.getD 0 0)) := ce_ic (by omega)
  have hyx : Xt (ic .u64 Y) 0 (0 + 8) (ic .u64 Y) := Xt.whole rfl (by rw [size_ic]; omega)
  refine Ret_of_W Hvad.func238 rfl rfl ?_
  refine W_seq ?_
  refine W_region rfl ?_
  refine WO_allocG Hvad.zeroValue224 ?_
  intro b4 v4 hg4 hE4 hH4 hl4
  try simp only [size_alloc, size_setB, size_drew] at hg4
  have hzz4 := hE4.1
  try simp only [size_alloc, size_setB, size_drew] at hzz4
  replace hH4 : Hb v4 b4 (.cells (ic .u64 (List.replicate 8 0)) 224 (0, 0)) := hH4
  refine WO_allocG Hvad.zeroValue281 ?_
  intro b5 v5 hg5 hE5 hH5 hl5
  try simp only [size_alloc, size_setB, size_drew] at hg5
  have hzz5 := hE5.1
  try simp only [size_alloc, size_setB, size_drew] at hzz5
  replace hH5 : Hb v5 b5 (.cells (ic .u8 [0, 0, 0]) 281 (0, 0)) := hH5
  refine WO_nil ?_
  refine thn_normal ?_
  refine W_seq ?_
  refine W_region rfl ?_
  refine WO_p (PS_move_ptr rfl) ?_
  refine WO_call Hvad.call274 (by rfl) (Ret.mono (wideLimbs_spec bm Tm Y (0, 0) _ (Hb.mk (Hb.h (by repeat (first | assumption | exact Hb.newY _ _ | refine Hb.alloc ?_ | refine Hb.drew ?_ | refine Hb.ext (by assumption) ?_ | exact Hb.setSameL (by first | omega | (simp only [size_alloc, size_setB, size_drew]; omega)) | exact Hb.setSame (by assumption) | refine Hb.set (by first | omega | (simp only [size_alloc, size_setB, size_drew]; omega)) ?_ )))) hyl hYL) ?_)
  rintro _ w1 ⟨hw1, n, rfl, hn8⟩
  rw [hw1]
  clear hw1
  have hX5 : Hb v5 bx (.cells (ic .u64 X) Tx (0, 0)) := Hb.mk (Hb.h (by repeat (first | assumption | exact Hb.newY _ _ | refine Hb.alloc ?_ | refine Hb.drew ?_ | refine Hb.ext (by assumption) ?_ | exact Hb.setSameL (by first | omega | (simp only [size_alloc, size_setB, size_drew]; omega)) | exact Hb.setSame (by assumption) | refine Hb.set (by first | omega | (simp only [size_alloc, size_setB, size_drew]; omega)) ?_ )))
  have hM5 : Hb v5 bm (.cells (ic .u64 Y) Tm (0, 0)) := Hb.mk (Hb.h (by repeat (first | assumption | exact Hb.newY _ _ | refine Hb.alloc ?_ | refine Hb.drew ?_ | refine Hb.ext (by assumption) ?_ | exact Hb.setSameL (by first | omega | (simp only [size_alloc, size_setB, size_drew]; omega)) | exact Hb.setSame (by assumption) | refine Hb.set (by first | omega | (simp only [size_alloc, size_setB, size_drew]; omega)) ?_ )))
  have hb45v : Hb v5 b4 (.cells (ic .u64 (List.replicate 8 0)) 224 (0, 0)) := Hb.mk (Hb.h (by repeat (first | assumption | exact Hb.newY _ _ | refine Hb.alloc ?_ | refine Hb.drew ?_ | refine Hb.ext (by assumption) ?_ | exact Hb.setSameL (by first | omega | (simp only [size_alloc, size_setB, size_drew]; omega)) | exact Hb.setSame (by assumption) | refine Hb.set (by first | omega | (simp only [size_alloc, size_setB, size_drew]; omega)) ?_ )))
  have hEw5 : Ext w v5 := (by repeat (first | assumption | exact Ext.refl _ | refine Ext.alloc ?_ _ | refine Ext.drew ?_ | refine Ext.setB ?_ (by first | omega | (simp only [size_alloc, size_setB, size_drew]; omega)) _ | exact Ext.trans (by assumption) (by assumption) | refine Ext.trans ?_ (by assumption)))
  refine WO_p (PS_assign_int rfl) ?_
  refine WO_nil ?_
  refine thn_normal ?_
  refine W_seq ?_
  refine W_region rfl ?_
  refine WO_p (PS_assign_int rfl) ?_
  refine WO_nil ?_
  refine thn_normal ?_
  refine W_seq ?_
  refine W_block ?_
  refine W_loopN (fun m ρ w' => ∃ (q : Nat), q = m ∧ q ≤ 16 ∧ Fr [(0, .pointer (some ⟨bx, 0, none⟩)), (1, .pointer (some ⟨bm, 0, none⟩)), (4, .pointer (some ⟨b4, 0, none⟩)), (5, .pointer (some ⟨b5, 0, none⟩)), (6, .int .u8 n), (7, .int .u8 q)] ρ ∧ w' = v5) 16 ?_ ?_
  · exact ⟨16, rfl, by omega, ⟨rfl, rfl, rfl, rfl, rfl, rfl, trivial⟩, rfl⟩
  intro m ρ w2 hI
  obtain ⟨q, hqm, hq8, hF, rfl⟩ := hI
  refine W_env _ hF ?_
  refine W_seq ?_
  refine W_seq ?_
  refine W_region rfl ?_
  refine WO_p (PS_move_int rfl) ?_
  refine WO_p (PS_gtr rfl rfl) ?_
  refine WO_p (PS_move_bool rfl) ?_
  refine WO_if (t := 24) rfl (fun hb3 => ?_) (fun hb3 => ?_)
  · have hb3p := hb3.h; try simp only [al_ete, al_dfn, Bool.not_eq_true', Bool.not_eq_false', al_ne, Bool.not_not, al_nn] at hb3p
    have hce : Ce (ic .u64 X) (0 + ((q:Int) - 1).toNat * 1) (.int .u64 (X.getD (q - 1) 0)) := by rw [show ((q:Int) - 1).toNat = q - 1 by omega]; exact ce_ic (by omega)
    refine WO_guardT rfl rfl hb3.h ?_
    refine WO_p (PS_move_ptr rfl) ?_
    refine WO_guardT rfl rfl hb3.h ?_
    refine WO_p (PS_move_int rfl) ?_
    refine WO_guardT rfl rfl hb3.h ?_
    refine WO_p (PS_sub_u8n rfl rfl (by omega) (by omega)) ?_
    refine WO_guardT rfl rfl hb3.h ?_
    refine WO_p (PS_nilCheck rfl) ?_
    refine WO_guardT rfl rfl hb3.h ?_
    refine WO_p (PS_indexA Hvad.runUnderlying279 Hvad.sizeOf26 rfl rfl (by omega) (by omega)) ?_
    refine WO_guardT rfl rfl hb3.h ?_
    refine WO_load (.int _ _) Hvad.isAgg26 rfl (Hb.h (by repeat (first | assumption | exact Hb.newY _ _ | refine Hb.alloc ?_ | refine Hb.drew ?_ | refine Hb.ext (by assumption) ?_ | exact Hb.setSameL (by first | omega | (simp only [size_alloc, size_setB, size_drew]; omega)) | exact Hb.setSame (by assumption) | refine Hb.set (by first | omega | (simp only [size_alloc, size_setB, size_drew]; omega)) ?_ ))) (Ce.h (by first | assumption | exact ⟨rfl⟩)) ?_
    refine WO_guardT rfl rfl hb3.h ?_
    refine WO_p (PS_eql rfl rfl) ?_
    refine WO_p (PS_pickT rfl hb3.h rfl) ?_
    refine WO_nil ?_
    refine thn_normal ?_
    refine W_if rfl (fun hb5 => ?_) (fun hb5 => ?_)
    · have hb5p := hb5.h; try simp only [al_ete, al_dfn, Bool.not_eq_true', Bool.not_eq_false', al_ne, Bool.not_not, al_nn] at hb5p
      refine W_skip ?_
      refine thn_normal ?_
      refine W_block ?_
      refine W_region rfl ?_
      refine WO_p (PS_move_int rfl) ?_
      refine WO_p (PS_sub_u8n rfl rfl (by omega) (by omega)) ?_
      refine WO_p (PS_assign_int rfl) ?_
      refine WO_nil ?_
      refine inBlk_normal ?_
      refine thn_normal ?_
      exact ⟨m - 1, by omega, q - 1, by omega, by omega, ⟨rfl, rfl, rfl, rfl, rfl, congrArg (Value.int .u8) (by omega), trivial⟩, rfl⟩
    · have hb5p := hb5.h; try simp only [al_ete, al_dfn, Bool.not_eq_true', Bool.not_eq_false', al_ne, Bool.not_not, al_nn] at hb5p
      refine W_exit ?_
      refine thn_exit ?_
      refine thn_exit ?_
      refine inBlk_exit ?_
      refine thn_normal ?_
      refine W_seq ?_
      refine W_seq ?_
      refine W_region rfl ?_
      refine WO_p (PS_move_int rfl) ?_
      refine WO_p (PS_eql rfl rfl) ?_
      refine WO_nil ?_
      refine thn_normal ?_
      refine W_if rfl (fun hb7 => ?_) (fun hb7 => ?_)
      · have hb7p := hb7.h; try simp only [al_ete, al_dfn, Bool.not_eq_true', Bool.not_eq_false', al_ne, Bool.not_not, al_nn] at hb7p
        refine W_seq ?_
        refine W_drawT2 [false, false, true, false] (RetW b4 b5 (List.replicate 8 0) [0, 0, 0]) hmix (by kernel_rfl) rfl ⟨Hb.mk (Hb.h (by repeat (first | assumption | exact Hb.newY _ _ | refine Hb.alloc ?_ | refine Hb.drew ?_ | refine Hb.ext (by assumption) ?_ | exact Hb.setSameL (by first | omega | (simp only [size_alloc, size_setB, size_drew]; omega)) | exact Hb.setSame (by assumption) | refine Hb.set (by first | omega | (simp only [size_alloc, size_setB, size_drew]; omega)) ?_ ))), Hb.mk (Hb.h (by repeat (first | assumption | exact Hb.newY _ _ | refine Hb.alloc ?_ | refine Hb.drew ?_ | refine Hb.ext (by assumption) ?_ | exact Hb.setSameL (by first | omega | (simp only [size_alloc, size_setB, size_drew]; omega)) | exact Hb.setSame (by assumption) | refine Hb.set (by first | omega | (simp only [size_alloc, size_setB, size_drew]; omega)) ?_ )))⟩ ?_
        intro hSt
        have hSt4 := hSt.h4
        have hSt5 := hSt.h5
        have hSt5l := hSt5.lt
        have hSt4l := hSt4.lt
        try simp only [size_drew] at hSt5l hSt4l
        have hRs : (Value.agg (ic .u64 (List.replicate 8 0))).cells.size = 8 := by simp only [Value.cells, size_ic]; first | rfl | omega
        have hps : (Value.agg (ic .u8 [0, 0, 0])).cells.size = 3 := by simp only [Value.cells, size_ic]; first | rfl | omega
        refine WH_loadA0 (ic .u64 (List.replicate 8 0)) Hvad.isAgg224 Hvad.sizeOf224 rfl (fun w' hS => row_at hS.h4 (by first | rfl | omega)) ?_
        refine WH_loadA0 (ic .u8 [0, 0, 0]) Hvad.isAgg281 Hvad.sizeOf281 rfl (fun w' hS => row_at hS.h5 (by first | rfl | omega)) ?_
        first | refine WH_storeW Hvad.sizeOf224 rfl (v := .agg _) rfl hSt4.h rfl hRs hRs oneCell_ic (fun _ => ⟨Hb.setSame hSt4, Hb.set (by omega) hSt5⟩) ?_ | refine WH_storeW Hvad.sizeOf281 rfl (v := .agg _) rfl (Hb.h (Hb.set (by omega) hSt5)) rfl hps hps oneCell_ic (fun h => by cases h) ?_
        first | refine WH_storeW Hvad.sizeOf224 rfl (v := .agg _) rfl hSt4.h rfl hRs hRs oneCell_ic (fun _ => ⟨Hb.setSame hSt4, Hb.set (by omega) hSt5⟩) ?_ | refine WH_storeW Hvad.sizeOf281 rfl (v := .agg _) rfl (Hb.h (Hb.set (by omega) hSt5)) rfl hps hps oneCell_ic (fun h => by cases h) ?_
        refine WH_nil ?_
        refine thn_normal ?_
        refine W_ret ?_
        refine thn_ret ?_
        refine bodyQ_cell2 Hvad.results238 rfl rfl Hvad.isAgg224 Hvad.sizeOf224 Hvad.isAgg281 Hvad.sizeOf281 rfl (Hb.h (by repeat (first | assumption | exact Hb.newY _ _ | refine Hb.alloc ?_ | refine Hb.drew ?_ | refine Hb.ext (by assumption) ?_ | exact Hb.setSameL (by first | omega | (simp only [size_alloc, size_setB, size_drew]; omega)) | exact Hb.setSame (by assumption) | refine Hb.set (by first | omega | (simp only [size_alloc, size_setB, size_drew]; omega)) ?_ ))) (by first | omega | assumption | rfl | decide | exact Nat.le_refl _ | (simp only [size_ic, Value.cells]; omega) | simp) rfl (Hb.h (by repeat (first | assumption | exact Hb.newY _ _ | refine Hb.alloc ?_ | refine Hb.drew ?_ | refine Hb.ext (by assumption) ?_ | exact Hb.setSameL (by first | omega | (simp only [size_alloc, size_setB, size_drew]; omega)) | exact Hb.setSame (by assumption) | refine Hb.set (by first | omega | (simp only [size_alloc, size_setB, size_drew]; omega)) ?_ ))) (by first | omega | assumption | rfl | decide | exact Nat.le_refl _ | (simp only [size_ic, Value.cells]; omega) | simp) ?_
        exact ⟨Ext.setB (Ext.setB (Ext.drew hEw5) (by omega) _) (by omega) _, _, _, rfl, hr8l, ULr 8, rfl⟩
      · have hb7p := hb7.h; try simp only [al_ete, al_dfn, Bool.not_eq_true', Bool.not_eq_false', al_ne, Bool.not_not, al_nn] at hb7p
        refine W_skip ?_
        refine thn_normal ?_
        refine W_seq ?_
        refine W_seq ?_
        refine W_region rfl ?_
        refine WO_p (PS_move_int rfl) ?_
        refine WO_p (PS_move_int rfl) ?_
        refine WO_p (PS_lss rfl rfl) ?_
        refine WO_nil ?_
        refine thn_normal ?_
        refine W_if rfl (fun hb9 => ?_) (fun hb9 => ?_)
        · have hb9p := hb9.h; try simp only [al_ete, al_dfn, Bool.not_eq_true', Bool.not_eq_false', al_ne, Bool.not_not, al_nn] at hb9p
          refine W_seq ?_
          refine W_drawT2 [false, false, false, false, false, false, true, false] (fun w' => Hb w' bx (.cells (ic .u64 X) Tx (0, 0)) ∧ Hb w' b5 (.cells (ic .u8 [0, 0, 0]) 281 (0, 0))) hmix (by kernel_rfl) rfl ⟨Hb.mk (Hb.h (by repeat (first | assumption | exact Hb.newY _ _ | refine Hb.alloc ?_ | refine Hb.drew ?_ | refine Hb.ext (by assumption) ?_ | exact Hb.setSameL (by first | omega | (simp only [size_alloc, size_setB, size_drew]; omega)) | exact Hb.setSame (by assumption) | refine Hb.set (by first | omega | (simp only [size_alloc, size_setB, size_drew]; omega)) ?_ ))), Hb.mk (Hb.h (by repeat (first | assumption | exact Hb.newY _ _ | refine Hb.alloc ?_ | refine Hb.drew ?_ | refine Hb.ext (by assumption) ?_ | exact Hb.setSameL (by first | omega | (simp only [size_alloc, size_setB, size_drew]; omega)) | exact Hb.setSame (by assumption) | refine Hb.set (by first | omega | (simp only [size_alloc, size_setB, size_drew]; omega)) ?_ )))⟩ ?_
          intro hSt
          have hSt0 := hSt.1
          have hSt5 := hSt.2
          have hSt5l := hSt5.lt
          try simp only [size_drew] at hSt5l
          refine WH_p (PS_move_ptr rfl) rfl ?_
          refine WH_p (PS_nilCheck rfl) rfl ?_
          refine WH_p (PS_slA_h Hvad.runUnderlying279 Hvad.sizeOf26 rfl rfl (by omega) (by omega) (by omega)) rfl ?_
          refine WH_p (PS_arrayAt Hvad.runUnderlying224 rfl (by omega)) rfl ?_
          refine WH_loadA0 (ic .u64 (X.take 8)) Hvad.isAgg224 Hvad.sizeOf224 rfl (fun w' hS => ⟨_, _, _, hS.1.h, by rw [size_ic]; omega, hxt8.h⟩) ?_
          refine WH_loadA0 (ic .u8 [0, 0, 0]) Hvad.isAgg281 Hvad.sizeOf281 rfl (fun w' hS => row_at hS.2 rfl) ?_
          first | refine WH_storeW Hvad.sizeOf224 rfl (v := .agg _) rfl (Hb.h (by repeat (first | assumption | exact Hb.newY _ _ | refine Hb.alloc ?_ | refine Hb.drew ?_ | refine Hb.ext (by assumption) ?_ | exact Hb.setSameL (by first | omega | (simp only [size_alloc, size_setB, size_drew]; omega)) | exact Hb.setSame (by assumption) | refine Hb.set (by first | omega | (simp only [size_alloc, size_setB, size_drew]; omega)) ?_ ))) rfl (by simp only [size_ic, Value.cells]; omega) (by first | rfl | (simp only [size_ic]; omega)) oneCell_ic (fun _ => ⟨Hb.set (by omega) hSt0, Hb.set (by omega) hSt5⟩) ?_ | refine WH_storeW Hvad.sizeOf281 rfl (v := .agg _) rfl (Hb.h (Hb.set (by omega) hSt5)) rfl rfl rfl oneCell_ic (fun h => by cases h) ?_
          first | refine WH_storeW Hvad.sizeOf224 rfl (v := .agg _) rfl (Hb.h (by repeat (first | assumption | exact Hb.newY _ _ | refine Hb.alloc ?_ | refine Hb.drew ?_ | refine Hb.ext (by assumption) ?_ | exact Hb.setSameL (by first | omega | (simp only [size_alloc, size_setB, size_drew]; omega)) | exact Hb.setSame (by assumption) | refine Hb.set (by first | omega | (simp only [size_alloc, size_setB, size_drew]; omega)) ?_ ))) rfl (by simp only [size_ic, Value.cells]; omega) (by first | rfl | (simp only [size_ic]; omega)) oneCell_ic (fun _ => ⟨Hb.set (by omega) hSt0, Hb.set (by omega) hSt5⟩) ?_ | refine WH_storeW Hvad.sizeOf281 rfl (v := .agg _) rfl (Hb.h (Hb.set (by omega) hSt5)) rfl rfl rfl oneCell_ic (fun h => by cases h) ?_
          refine WH_nil ?_
          refine thn_normal ?_
          refine W_ret ?_
          refine thn_ret ?_
          refine bodyQ_cell2 Hvad.results238 rfl rfl Hvad.isAgg224 Hvad.sizeOf224 Hvad.isAgg281 Hvad.sizeOf281 rfl (Hb.h (by repeat (first | assumption | exact Hb.newY _ _ | refine Hb.alloc ?_ | refine Hb.drew ?_ | refine Hb.ext (by assumption) ?_ | exact Hb.setSameL (by first | omega | (simp only [size_alloc, size_setB, size_drew]; omega)) | exact Hb.setSame (by assumption) | refine Hb.set (by first | omega | (simp only [size_alloc, size_setB, size_drew]; omega)) ?_ ))) (by first | omega | assumption | rfl | decide | exact Nat.le_refl _ | (simp only [size_ic, Value.cells]; omega) | simp) rfl (Hb.h (by repeat (first | assumption | exact Hb.newY _ _ | refine Hb.alloc ?_ | refine Hb.drew ?_ | refine Hb.ext (by assumption) ?_ | exact Hb.setSameL (by first | omega | (simp only [size_alloc, size_setB, size_drew]; omega)) | exact Hb.setSame (by assumption) | refine Hb.set (by first | omega | (simp only [size_alloc, size_setB, size_drew]; omega)) ?_ ))) (by first | omega | assumption | rfl | decide | exact Nat.le_refl _ | (simp only [size_ic, Value.cells]; omega) | simp) ?_
          exact ⟨Ext.setB (Ext.setB (Ext.drew hEw5) (by omega) _) (by omega) _, _, _, rfl, hx8, fun z hz => hXL z (List.mem_of_mem_take hz), rfl⟩
        · have hb9p := hb9.h; try simp only [al_ete, al_dfn, Bool.not_eq_true', Bool.not_eq_false', al_ne, Bool.not_not, al_nn] at hb9p
          refine W_skip ?_
          refine thn_normal ?_
          refine W_seq ?_
          refine W_region rfl ?_
          refine WO_p (PS_move_int rfl) ?_
          refine WO_p (PS_move_int rfl) ?_
          refine WO_p (PS_sub_u8n rfl rfl (by omega) (by omega)) ?_
          refine WO_p (PS_add_u8n rfl rfl (by omega) (by omega)) ?_
          refine WO_p (PS_fieldAddr 0 Hvad.runUnderlying281 rfl Hvad.sizeOf5 rfl rfl) ?_
          refine WO_storeBx (b := b5) (T := 281) (L := [0, 0, 0]) Hvad.sizeOf5 rfl rfl (Hb.mk (Hb.h (by repeat (first | assumption | exact Hb.newY _ _ | refine Hb.alloc ?_ | refine Hb.drew ?_ | refine Hb.ext (by assumption) ?_ | exact Hb.setSameL (by first | omega | (simp only [size_alloc, size_setB, size_drew]; omega)) | exact Hb.setSame (by assumption) | refine Hb.set (by first | omega | (simp only [size_alloc, size_setB, size_drew]; omega)) ?_ )))) (by decide) (by omega) ?_
          intro w9 hT9
          obtain ⟨p9, hpe⟩ : ∃ p9, ([0, 0, 0] : List Int).set (0 + 0) ((q : Int) - n + 1) = p9 := ⟨_, rfl⟩
          rw [hpe] at hT9
          have hce0 : Ce (ic .u8 p9) (0 + 0) (.int .u8 ((q : Int) - n + 1)) := by rw [← hpe]; exact ⟨rfl⟩
          have hz9 := hT9.keep.sz
          have hBy9 : By8 p9 := hT9.ty (by_zero 3)
          have hp9 : p9.length = 3 := hT9.len
          have hE9 : Ext w w9 := hT9.ext1 (by repeat (first | assumption | exact Ext.refl _ | refine Ext.alloc ?_ _ | refine Ext.drew ?_ | refine Ext.setB ?_ (by first | omega | (simp only [size_alloc, size_setB, size_drew]; omega)) _ | exact Ext.trans (by assumption) (by assumption) | refine Ext.trans ?_ (by assumption))) (by omega)
          have hb49 := hT9.other (Hb.mk (Hb.h (by repeat (first | assumption | exact Hb.newY _ _ | refine Hb.alloc ?_ | refine Hb.drew ?_ | refine Hb.ext (by assumption) ?_ | exact Hb.setSameL (by first | omega | (simp only [size_alloc, size_setB, size_drew]; omega)) | exact Hb.setSame (by assumption) | refine Hb.set (by first | omega | (simp only [size_alloc, size_setB, size_drew]; omega)) ?_ ))) : Hb _ b4 (.cells (ic .u64 (List.replicate 8 0)) 224 (0, 0))) (by omega)
          have hX9 := hT9.other hX5 (by omega)
          have hM9 := hT9.other hM5 (by omega)
          have hb59 := hT9.hb
          refine WO_nil ?_
          refine thn_normal ?_
          refine W_seq ?_
          refine W_seq ?_
          refine W_region rfl ?_
          refine WO_p (PS_move_int rfl) ?_
          refine WO_p (PS_eql rfl rfl) ?_
          refine WO_nil ?_
          refine thn_normal ?_
          refine W_if rfl (fun hb11 => ?_) (fun hb11 => ?_)
          · have hb11p := hb11.h; try simp only [al_ete, al_dfn, Bool.not_eq_true', Bool.not_eq_false', al_ne, Bool.not_not, al_nn] at hb11p
            refine W_seq ?_
            refine W_region rfl ?_
            refine WO_p (PS_assign_int rfl) ?_
            refine WO_nil ?_
            refine thn_normal ?_
            refine W_seq ?_
            refine W_seq ?_
            refine W_region rfl ?_
            refine WO_p (PS_move_int rfl) ?_
            refine WO_p (PS_assign_int rfl) ?_
            refine WO_nil ?_
            refine thn_normal ?_
            refine W_block ?_
            refine W_loopN (fun m ρ w' => ∃ (i : Nat) (r8 : Int), i = m ∧ i ≤ 16 ∧ (0 ≤ r8 ∧ r8 ≤ 18446744073709551615) ∧ Fr [(0, .pointer (some ⟨bx, 0, none⟩)), (1, .pointer (some ⟨bm, 0, none⟩)), (4, .pointer (some ⟨b4, 0, none⟩)), (5, .pointer (some ⟨b5, 0, none⟩)), (8, .int .u64 r8), (9, .int .u8 i)] ρ ∧ Ext w9 w') q ?_ ?_
            · exact ⟨q, 0, rfl, by omega, by decide, ⟨rfl, rfl, rfl, rfl, rfl, rfl, trivial⟩, Ext.refl _⟩
            intro m3 ρ3 w13 hI
            obtain ⟨i, r8, him, hi16, hr8, hF13, hE13⟩ := hI
            refine W_env _ hF13 ?_
            have hz13 := hE13.1
            have hx13 := hXL.get (i - 1)
            have hy13 := hYL.get 0
            refine W_seq ?_
            refine W_seq ?_
            refine W_region rfl ?_
            refine WO_p (PS_move_int rfl) ?_
            refine WO_p (PS_gtr rfl rfl) ?_
            refine WO_nil ?_
            refine thn_normal ?_
            refine W_if rfl (fun hb13 => ?_) (fun hb13 => ?_)
            · have hb13p := hb13.h; try simp only [al_ete, al_dfn, Bool.not_eq_true', Bool.not_eq_false', al_ne, Bool.not_not, al_nn] at hb13p
              have hceXi : Ce (ic .u64 X) (0 + ((i:Int) - 1).toNat * 1) (.int .u64 (X.getD (i - 1) 0)) := by rw [show ((i:Int) - 1).toNat = i - 1 by omega]; exact ce_ic (by omega)
              refine W_skip ?_
              refine thn_normal ?_
              refine W_seq ?_
              refine W_block ?_
              refine W_seq ?_
              refine W_drawE [false, false, false, false, false, false, false, false, false, false, false, false, false, false, false, false, false, false, false] hmix (by kernel_rfl) rfl ?_
              refine WH_p (PS_move_int rfl) rfl ?_
              refine WH_p (PS_move_ptr rfl) rfl ?_
              refine WH_p (PS_move_int rfl) rfl ?_
              refine WH_p (PS_sub_u8n rfl rfl (by omega) (by omega)) rfl ?_
              refine WH_p (PS_nilCheck rfl) rfl ?_
              refine WH_p (PS_indexA Hvad.runUnderlying279 Hvad.sizeOf26 rfl rfl (by omega) (by omega)) rfl ?_
              refine WH_load (.int _ _) Hvad.isAgg26 rfl (Hb.h (by repeat (first | assumption | exact Hb.newY _ _ | refine Hb.alloc ?_ | refine Hb.drew ?_ | refine Hb.ext (by assumption) ?_ | exact Hb.setSameL (by first | omega | (simp only [size_alloc, size_setB, size_drew]; omega)) | exact Hb.setSame (by assumption) | refine Hb.set (by first | omega | (simp only [size_alloc, size_setB, size_drew]; omega)) ?_ ))) (Ce.h (by first | assumption | exact ⟨rfl⟩)) ?_
              refine WH_p (PS_move_ptr rfl) rfl ?_
              refine WH_p (PS_nilCheck rfl) rfl ?_
              refine WH_p (PS_indexA Hvad.runUnderlying224 Hvad.sizeOf26 rfl rfl (by omega) (by omega)) rfl ?_
              refine WH_load (.int _ _) Hvad.isAgg26 rfl (Hb.h (by repeat (first | assumption | exact Hb.newY _ _ | refine Hb.alloc ?_ | refine Hb.drew ?_ | refine Hb.ext (by assumption) ?_ | exact Hb.setSameL (by first | omega | (simp only [size_alloc, size_setB, size_drew]; omega)) | exact Hb.setSame (by assumption) | refine Hb.set (by first | omega | (simp only [size_alloc, size_setB, size_drew]; omega)) ?_ ))) (Ce.h (by first | assumption | exact ⟨rfl⟩)) ?_
              refine WH_call Hvad.call249 (by rfl) (Ret.mono (div64_spec _ _ _ _ hr8 hx13 hy13) ?_)
              rintro _ w15 ⟨hE15, q15, r15, ok15, rfl, hq15, hr15⟩
              refine ⟨(fun h => by cases h), ?_⟩
              have hz15 := hE15.1
              try simp only [size_drew] at hz15
              refine WH_p (PS_move_tuple rfl) rfl ?_
              refine WH_p (PS_extract_int rfl rfl) rfl ?_
              refine WH_p (PS_extract_int rfl rfl) rfl ?_
              refine WH_p (PS_extract_bool rfl rfl) rfl ?_
              refine WH_p (PS_assign_int rfl) rfl ?_
              refine WH_p (PS_assign_int rfl) rfl ?_
              refine WH_p (PS_assign_bool rfl) rfl ?_
              refine WH_nil ?_
              refine thn_normal ?_
              refine W_region rfl ?_
              refine WO_p (PS_move_int rfl) ?_
              refine WO_p (PS_assign_int rfl) ?_
              refine WO_nil ?_
              refine inBlk_normal ?_
              refine thn_normal ?_
              refine W_region rfl ?_
              refine WO_p (PS_move_int rfl) ?_
              refine WO_p (PS_sub_u8n rfl rfl (by omega) (by omega)) ?_
              refine WO_p (PS_assign_int rfl) ?_
              refine WO_nil ?_
              refine thn_normal ?_
              exact ⟨m3 - 1, by omega, i - 1, r15, by omega, by omega, hr15, ⟨rfl, rfl, rfl, rfl, rfl, congrArg (Value.int .u8) (by omega), trivial⟩, (by repeat (first | assumption | exact Ext.refl _ | refine Ext.alloc ?_ _ | refine Ext.drew ?_ | refine Ext.setB ?_ (by first | omega | (simp only [size_alloc, size_setB, size_drew]; omega)) _ | exact Ext.trans (by assumption) (by assumption) | refine Ext.trans ?_ (by assumption)))⟩
            · have hb13p := hb13.h; try simp only [al_ete, al_dfn, Bool.not_eq_true', Bool.not_eq_false', al_ne, Bool.not_not, al_nn] at hb13p
              refine W_exit ?_
              refine thn_exit ?_
              refine thn_exit ?_
              refine inBlk_exit ?_
              refine thn_normal ?_
              refine W_seq ?_
              refine W_region rfl ?_
              refine WO_p (PS_move_int rfl) ?_
              refine WO_p (PS_indexA Hvad.runUnderlying224 Hvad.sizeOf26 rfl rfl (by omega) (by omega)) ?_
              refine WO_storeU (b := b4) (T := 224) (L := List.replicate 8 0) Hvad.sizeOf26 rfl rfl (Hb.mk (Hb.h (by repeat (first | assumption | exact Hb.newY _ _ | refine Hb.alloc ?_ | refine Hb.drew ?_ | refine Hb.ext (by assumption) ?_ | exact Hb.setSameL (by first | omega | (simp only [size_alloc, size_setB, size_drew]; omega)) | exact Hb.setSame (by assumption) | refine Hb.set (by first | omega | (simp only [size_alloc, size_setB, size_drew]; omega)) ?_ )))) (by simp) hr8 ?_
              intro w17 R17 hU17
              have hz17 := hU17.keep.sz
              have hUL17 : UL R17 := hU17.ty (ULr 8)
              have hR17l : R17.length = 8 := by rw [hU17.len]; exact hr8l
              have hE17 : Ext w w17 := hU17.ext1 (by repeat (first | assumption | exact Ext.refl _ | refine Ext.alloc ?_ _ | refine Ext.drew ?_ | refine Ext.setB ?_ (by first | omega | (simp only [size_alloc, size_setB, size_drew]; omega)) _ | exact Ext.trans (by assumption) (by assumption) | refine Ext.trans ?_ (by assumption))) (by omega)
              have hb517 := hU17.other (Hb.mk (Hb.h (by repeat (first | assumption | exact Hb.newY _ _ | refine Hb.alloc ?_ | refine Hb.drew ?_ | refine Hb.ext (by assumption) ?_ | exact Hb.setSameL (by first | omega | (simp only [size_alloc, size_setB, size_drew]; omega)) | exact Hb.setSame (by assumption) | refine Hb.set (by first | omega | (simp only [size_alloc, size_setB, size_drew]; omega)) ?_ ))) : Hb _ b5 (.cells (ic .u8 p9) 281 (0, 0))) (by omega)
              have hb417 := hU17.hb
              refine WO_nil ?_
              refine thn_normal ?_
              refine W_seq ?_
              refine W_drawT2 [false, false, true, false] (RetW b4 b5 R17 p9) hmix (by kernel_rfl) rfl ⟨Hb.mk (Hb.h (by repeat (first | assumption | exact Hb.newY _ _ | refine Hb.alloc ?_ | refine Hb.drew ?_ | refine Hb.ext (by assumption) ?_ | exact Hb.setSameL (by first | omega | (simp only [size_alloc, size_setB, size_drew]; omega)) | exact Hb.setSame (by assumption) | refine Hb.set (by first | omega | (simp only [size_alloc, size_setB, size_drew]; omega)) ?_ ))), Hb.mk (Hb.h (by repeat (first | assumption | exact Hb.newY _ _ | refine Hb.alloc ?_ | refine Hb.drew ?_ | refine Hb.ext (by assumption) ?_ | exact Hb.setSameL (by first | omega | (simp only [size_alloc, size_setB, size_drew]; omega)) | exact Hb.setSame (by assumption) | refine Hb.set (by first | omega | (simp only [size_alloc, size_setB, size_drew]; omega)) ?_ )))⟩ ?_
              intro hSt
              have hSt4 := hSt.h4
              have hSt5 := hSt.h5
              have hSt5l := hSt5.lt
              have hSt4l := hSt4.lt
              try simp only [size_drew] at hSt5l hSt4l
              have hRs : (Value.agg (ic .u64 R17)).cells.size = 8 := by simp only [Value.cells, size_ic]; first | rfl | omega
              have hps : (Value.agg (ic .u8 p9)).cells.size = 3 := by simp only [Value.cells, size_ic]; first | rfl | omega
              refine WH_loadA0 (ic .u64 R17) Hvad.isAgg224 Hvad.sizeOf224 rfl (fun w' hS => row_at hS.h4 (by first | rfl | omega)) ?_
              refine WH_loadA0 (ic .u8 p9) Hvad.isAgg281 Hvad.sizeOf281 rfl (fun w' hS => row_at hS.h5 (by first | rfl | omega)) ?_
              first | refine WH_storeW Hvad.sizeOf224 rfl (v := .agg _) rfl hSt4.h rfl hRs hRs oneCell_ic (fun _ => ⟨Hb.setSame hSt4, Hb.set (by omega) hSt5⟩) ?_ | refine WH_storeW Hvad.sizeOf281 rfl (v := .agg _) rfl (Hb.h (Hb.set (by omega) hSt5)) rfl hps hps oneCell_ic (fun h => by cases h) ?_
              first | refine WH_storeW Hvad.sizeOf224 rfl (v := .agg _) rfl hSt4.h rfl hRs hRs oneCell_ic (fun _ => ⟨Hb.setSame hSt4, Hb.set (by omega) hSt5⟩) ?_ | refine WH_storeW Hvad.sizeOf281 rfl (v := .agg _) rfl (Hb.h (Hb.set (by omega) hSt5)) rfl hps hps oneCell_ic (fun h => by cases h) ?_
              refine WH_nil ?_
              refine thn_normal ?_
              refine W_ret ?_
              refine thn_ret ?_
              refine bodyQ_cell2 Hvad.results238 rfl rfl Hvad.isAgg224 Hvad.sizeOf224 Hvad.isAgg281 Hvad.sizeOf281 rfl (Hb.h (by repeat (first | assumption | exact Hb.newY _ _ | refine Hb.alloc ?_ | refine Hb.drew ?_ | refine Hb.ext (by assumption) ?_ | exact Hb.setSameL (by first | omega | (simp only [size_alloc, size_setB, size_drew]; omega)) | exact Hb.setSame (by assumption) | refine Hb.set (by first | omega | (simp only [size_alloc, size_setB, size_drew]; omega)) ?_ ))) (by first | omega | assumption | rfl | decide | exact Nat.le_refl _ | (simp only [size_ic, Value.cells]; omega) | simp) rfl (Hb.h (by repeat (first | assumption | exact Hb.newY _ _ | refine Hb.alloc ?_ | refine Hb.drew ?_ | refine Hb.ext (by assumption) ?_ | exact Hb.setSameL (by first | omega | (simp only [size_alloc, size_setB, size_drew]; omega)) | exact Hb.setSame (by assumption) | refine Hb.set (by first | omega | (simp only [size_alloc, size_setB, size_drew]; omega)) ?_ ))) (by first | omega | assumption | rfl | decide | exact Nat.le_refl _ | (simp only [size_ic, Value.cells]; omega) | simp) ?_
              exact ⟨Ext.setB (Ext.setB (Ext.drew hE17) (by omega) _) (by omega) _, _, _, rfl, hR17l, hUL17, hp9⟩
          · have hb11p := hb11.h; try simp only [al_ete, al_dfn, Bool.not_eq_true', Bool.not_eq_false', al_ne, Bool.not_not, al_nn] at hb11p
            refine W_skip ?_
            refine thn_normal ?_
            refine W_seq ?_
            refine W_region rfl ?_
            refine WO_allocG Hvad.zeroValue313 ?_
            intro b13 v13 hg13 hE13 hH13 hl13
            try simp only [size_alloc, size_setB, size_drew] at hg13
            have hzz13 := hE13.1
            try simp only [size_alloc, size_setB, size_drew] at hzz13
            replace hH13 : Hb v13 b13 (.cells (ic .u64 (List.replicate 17 0)) 313 (0, 0)) := hH13
            refine WO_nil ?_
            refine thn_normal ?_
            refine W_seq ?_
            refine W_drawE [false, false, false, false, false] hmix (by kernel_rfl) rfl ?_
            refine WH_p (PS_slA Hvad.runUnderlying313 Hvad.sizeOf26 rfl (by omega)) rfl ?_
            refine WH_p (PS_move_ptr rfl) rfl ?_
            refine WH_p (PS_nilCheck rfl) rfl ?_
            refine WH_p (PS_slA Hvad.runUnderlying279 Hvad.sizeOf26 rfl (by omega)) rfl ?_
            refine WH_copyU (b := b13) (T := 313) (L := List.replicate 17 0) (b2 := bx) (L2 := X) Hvad.runUnderlying194 Hvad.sizeOf26 rfl rfl (Hb.mk (Hb.h (by repeat (first | assumption | exact Hb.newY _ _ | refine Hb.alloc ?_ | refine Hb.drew ?_ | refine Hb.ext (by assumption) ?_ | exact Hb.setSameL (by first | omega | (simp only [size_alloc, size_setB, size_drew]; omega)) | exact Hb.setSame (by assumption) | refine Hb.set (by first | omega | (simp only [size_alloc, size_setB, size_drew]; omega)) ?_ )))) (Hb.mk (Hb.h (by repeat (first | assumption | exact Hb.newY _ _ | refine Hb.alloc ?_ | refine Hb.drew ?_ | refine Hb.ext (by assumption) ?_ | exact Hb.setSameL (by first | omega | (simp only [size_alloc, size_setB, size_drew]; omega)) | exact Hb.setSame (by assumption) | refine Hb.set (by first | omega | (simp only [size_alloc, size_setB, size_drew]; omega)) ?_ )))) (by omega) (by omega) hxl hXL ?_
            intro w20 U20 hU20
            have hz20 := hU20.keep.sz
            try simp only [size_alloc, size_setB, size_drew] at hz20
            have hUL20 := hU20.ty (ULr 17)
            have hu20 := hU20.len
            have hE20 : Ext w w20 := hU20.ext1 (by repeat (first | assumption | exact Ext.refl _ | refine Ext.alloc ?_ _ | refine Ext.drew ?_ | refine Ext.setB ?_ (by first | omega | (simp only [size_alloc, size_setB, size_drew]; omega)) _ | exact Ext.trans (by assumption) (by assumption) | refine Ext.trans ?_ (by assumption))) (by omega)
            have hb420 := hU20.other (Hb.mk (Hb.h (by repeat (first | assumption | exact Hb.newY _ _ | refine Hb.alloc ?_ | refine Hb.drew ?_ | refine Hb.ext (by assumption) ?_ | exact Hb.setSameL (by first | omega | (simp only [size_alloc, size_setB, size_drew]; omega)) | exact Hb.setSame (by assumption) | refine Hb.set (by first | omega | (simp only [size_alloc, size_setB, size_drew]; omega)) ?_ ))) : Hb _ b4 (.cells (ic .u64 (List.replicate 8 0)) 224 (0, 0))) (by omega)
            have hb520 := hU20.other (Hb.mk (Hb.h (by repeat (first | assumption | exact Hb.newY _ _ | refine Hb.alloc ?_ | refine Hb.drew ?_ | refine Hb.ext (by assumption) ?_ | exact Hb.setSameL (by first | omega | (simp only [size_alloc, size_setB, size_drew]; omega)) | exact Hb.setSame (by assumption) | refine Hb.set (by first | omega | (simp only [size_alloc, size_setB, size_drew]; omega)) ?_ ))) : Hb _ b5 (.cells (ic .u8 p9) 281 (0, 0))) (by omega)
            have hM20 := hU20.other (Hb.mk (Hb.h (by repeat (first | assumption | exact Hb.newY _ _ | refine Hb.alloc ?_ | refine Hb.drew ?_ | refine Hb.ext (by assumption) ?_ | exact Hb.setSameL (by first | omega | (simp only [size_alloc, size_setB, size_drew]; omega)) | exact Hb.setSame (by assumption) | refine Hb.set (by first | omega | (simp only [size_alloc, size_setB, size_drew]; omega)) ?_ ))) : Hb _ bm (.cells (ic .u64 Y) Tm (0, 0))) (by omega)
            have hb1320 := hU20.hb
            refine ⟨(fun h => by cases h), ?_⟩
            refine WH_nil ?_
            refine thn_normal ?_
            refine W_seq ?_
            refine W_region rfl ?_
            refine WO_p (PS_move_ptr rfl) ?_
            refine WO_p (PS_nilCheck rfl) ?_
            refine WO_loadA _ Hvad.isAgg224 Hvad.sizeOf224 rfl (Hb.h (by repeat (first | assumption | exact Hb.newY _ _ | refine Hb.alloc ?_ | refine Hb.drew ?_ | refine Hb.ext (by assumption) ?_ | exact Hb.setSameL (by first | omega | (simp only [size_alloc, size_setB, size_drew]; omega)) | exact Hb.setSame (by assumption) | refine Hb.set (by first | omega | (simp only [size_alloc, size_setB, size_drew]; omega)) ?_ ))) (by first | omega | assumption | rfl | decide | exact Nat.le_refl _ | (simp only [size_ic, Value.cells]; omega) | simp) (Xt.h (by first | assumption | exact Xt.whole rfl rfl | exact Xt.whole rfl (by simp only [size_ic, Value.cells]; omega) | exact ⟨rfl⟩)) ?_
            refine WO_allocG Hvad.zeroValue224 ?_
            intro b14 v14 hg14 hE14 hH14 hl14
            try simp only [size_alloc, size_setB, size_drew] at hg14
            have hzz14 := hE14.1
            try simp only [size_alloc, size_setB, size_drew] at hzz14
            replace hH14 : Hb v14 b14 (.cells (ic .u64 (List.replicate 8 0)) 224 (0, 0)) := hH14
            refine WO_storeW Hvad.sizeOf224 rfl (v := .agg _) rfl (Hb.h (by repeat (first | assumption | exact Hb.newY _ _ | refine Hb.alloc ?_ | refine Hb.drew ?_ | refine Hb.ext (by assumption) ?_ | exact Hb.setSameL (by first | omega | (simp only [size_alloc, size_setB, size_drew]; omega)) | exact Hb.setSame (by assumption) | refine Hb.set (by first | omega | (simp only [size_alloc, size_setB, size_drew]; omega)) ?_ ))) rfl (by simp only [size_ic, Value.cells]; omega) (by first | rfl | (simp only [size_ic]; omega)) oneCell_ic ?_
            change WO _ _ _ _ _ (setB _ _ (.cells (ic .u64 Y) 224 (0, 0)))
            refine WO_nil ?_
            refine thn_normal ?_
            refine W_seq ?_
            have hceYn : Ce (ic .u64 Y) (0 + ((n:Int) - 1).toNat * 1) (.int .u64 (Y.getD (n - 1) 0)) := by rw [show ((n:Int) - 1).toNat = n - 1 by omega]; exact ce_ic (by omega)
            refine W_region rfl ?_
            refine WO_p (PS_move_int rfl) ?_
            refine WO_p (PS_sub_u8n rfl rfl (by omega) (by omega)) ?_
            refine WO_p (PS_indexA Hvad.runUnderlying224 Hvad.sizeOf26 rfl rfl (by omega) (by omega)) ?_
            refine WO_load (.int _ _) Hvad.isAgg26 rfl (Hb.h (by repeat (first | assumption | exact Hb.newY _ _ | refine Hb.alloc ?_ | refine Hb.drew ?_ | refine Hb.ext (by assumption) ?_ | exact Hb.setSameL (by first | omega | (simp only [size_alloc, size_setB, size_drew]; omega)) | exact Hb.setSame (by assumption) | refine Hb.set (by first | omega | (simp only [size_alloc, size_setB, size_drew]; omega)) ?_ ))) (Ce.h (by first | assumption | exact ⟨rfl⟩)) ?_
            refine WO_call Hvad.call275 (by rfl) (Ret.mono (lz64_spec _ _ (hYL.get (n - 1))) ?_)
            rintro _ w22 ⟨hw22, ln, rfl, hln, hLn⟩
            rw [hw22]
            clear hw22
            refine WO_p (PS_conv_u8n Hvad.runUnderlying3 Hvad.runUnderlying5 rfl (by omega) (by omega)) ?_
            refine WO_p (PS_assign_int rfl) ?_
            refine WO_nil ?_
            refine thn_normal ?_
            refine W_seq ?_
            refine W_region rfl ?_
            refine WO_p (PS_slA Hvad.runUnderlying313 Hvad.sizeOf26 rfl (by omega)) ?_
            refine WO_p (PS_move_int rfl) ?_
            refine WO_call Hvad.call276 (by rfl) (Ret.mono (shiftUp_spec b13 0 17 _ 313 U20 _ _ (Hb.mk (Hb.h (by repeat (first | assumption | exact Hb.newY _ _ | refine Hb.alloc ?_ | refine Hb.drew ?_ | refine Hb.ext (by assumption) ?_ | exact Hb.setSameL (by first | omega | (simp only [size_alloc, size_setB, size_drew]; omega)) | exact Hb.setSame (by assumption) | refine Hb.set (by first | omega | (simp only [size_alloc, size_setB, size_drew]; omega)) ?_ )))) hUL20 (by omega) (by omega) (by omega)) ?_)
            rintro _ w23 ⟨rfl, hT23⟩
            obtain ⟨U23, hU23, hUL23⟩ := hT23.ut
            have hz23 := hU23.keep.sz
            try simp only [size_alloc, size_setB, size_drew] at hz23
            have hE23 : Ext w w23 := hU23.ext1 (by repeat (first | assumption | exact Ext.refl _ | refine Ext.alloc ?_ _ | refine Ext.drew ?_ | refine Ext.setB ?_ (by first | omega | (simp only [size_alloc, size_setB, size_drew]; omega)) _ | exact Ext.trans (by assumption) (by assumption) | refine Ext.trans ?_ (by assumption))) (by omega)
            have hb423 := hU23.other (Hb.mk (Hb.h (by repeat (first | assumption | exact Hb.newY _ _ | refine Hb.alloc ?_ | refine Hb.drew ?_ | refine Hb.ext (by assumption) ?_ | exact Hb.setSameL (by first | omega | (simp only [size_alloc, size_setB, size_drew]; omega)) | exact Hb.setSame (by assumption) | refine Hb.set (by first | omega | (simp only [size_alloc, size_setB, size_drew]; omega)) ?_ ))) : Hb _ b4 (.cells (ic .u64 (List.replicate 8 0)) 224 (0, 0))) (by omega)
            have hb523 := hU23.other (Hb.mk (Hb.h (by repeat (first | assumption | exact Hb.newY _ _ | refine Hb.alloc ?_ | refine Hb.drew ?_ | refine Hb.ext (by assumption) ?_ | exact Hb.setSameL (by first | omega | (simp only [size_alloc, size_setB, size_drew]; omega)) | exact Hb.setSame (by assumption) | refine Hb.set (by first | omega | (simp only [size_alloc, size_setB, size_drew]; omega)) ?_ ))) : Hb _ b5 (.cells (ic .u8 p9) 281 (0, 0))) (by omega)
            have hb1423 := hU23.other (Hb.mk (Hb.h (by repeat (first | assumption | exact Hb.newY _ _ | refine Hb.alloc ?_ | refine Hb.drew ?_ | refine Hb.ext (by assumption) ?_ | exact Hb.setSameL (by first | omega | (simp only [size_alloc, size_setB, size_drew]; omega)) | exact Hb.setSame (by assumption) | refine Hb.set (by first | omega | (simp only [size_alloc, size_setB, size_drew]; omega)) ?_ ))) : Hb _ b14 (.cells (ic .u64 Y) 224 (0, 0))) (by omega)
            have hb1323 := hU23.hb
            refine WO_nil ?_
            refine thn_normal ?_
            refine W_seq ?_
            refine W_region rfl ?_
            refine WO_p (PS_slA Hvad.runUnderlying224 Hvad.sizeOf26 rfl (by omega)) ?_
            refine WO_p (PS_move_int rfl) ?_
            refine WO_call Hvad.call276 (by rfl) (Ret.mono (shiftUp_spec b14 0 8 _ 224 Y _ _ (Hb.mk (Hb.h (by repeat (first | assumption | exact Hb.newY _ _ | refine Hb.alloc ?_ | refine Hb.drew ?_ | refine Hb.ext (by assumption) ?_ | exact Hb.setSameL (by first | omega | (simp only [size_alloc, size_setB, size_drew]; omega)) | exact Hb.setSame (by assumption) | refine Hb.set (by first | omega | (simp only [size_alloc, size_setB, size_drew]; omega)) ?_ )))) hYL (by omega) (by omega) (by omega)) ?_)
            rintro _ w24 ⟨rfl, hT24⟩
            obtain ⟨Y24, hU24, hUL24⟩ := hT24.ut
            have hz24 := hU24.keep.sz
            have hy24 := hU24.len
            have hb424 := hU24.other (Hb.mk (Hb.h (by repeat (first | assumption | exact Hb.newY _ _ | refine Hb.alloc ?_ | refine Hb.drew ?_ | refine Hb.ext (by assumption) ?_ | exact Hb.setSameL (by first | omega | (simp only [size_alloc, size_setB, size_drew]; omega)) | exact Hb.setSame (by assumption) | refine Hb.set (by first | omega | (simp only [size_alloc, size_setB, size_drew]; omega)) ?_ ))) : Hb _ b4 (.cells (ic .u64 (List.replicate 8 0)) 224 (0, 0))) (by omega)
            have hb524 := hU24.other (Hb.mk (Hb.h (by repeat (first | assumption | exact Hb.newY _ _ | refine Hb.alloc ?_ | refine Hb.drew ?_ | refine Hb.ext (by assumption) ?_ | exact Hb.setSameL (by first | omega | (simp only [size_alloc, size_setB, size_drew]; omega)) | exact Hb.setSame (by assumption) | refine Hb.set (by first | omega | (simp only [size_alloc, size_setB, size_drew]; omega)) ?_ ))) : Hb _ b5 (.cells (ic .u8 p9) 281 (0, 0))) (by omega)
            have hb1324 := hU24.other (Hb.mk (Hb.h (by repeat (first | assumption | exact Hb.newY _ _ | refine Hb.alloc ?_ | refine Hb.drew ?_ | refine Hb.ext (by assumption) ?_ | exact Hb.setSameL (by first | omega | (simp only [size_alloc, size_setB, size_drew]; omega)) | exact Hb.setSame (by assumption) | refine Hb.set (by first | omega | (simp only [size_alloc, size_setB, size_drew]; omega)) ?_ ))) : Hb _ b13 (.cells (ic .u64 U23) 313 (0, 0))) (by omega)
            have hb1424 := hU24.hb
            refine WO_nil ?_
            refine thn_normal ?_
            refine W_seq ?_
            refine W_seq ?_
            refine W_region rfl ?_
            refine WO_p (PS_fieldAddr 0 Hvad.runUnderlying281 rfl Hvad.sizeOf5 rfl rfl) ?_
            refine WO_load (.int _ _) Hvad.isAgg5 rfl (Hb.h (by repeat (first | assumption | exact Hb.newY _ _ | refine Hb.alloc ?_ | refine Hb.drew ?_ | refine Hb.ext (by assumption) ?_ | exact Hb.setSameL (by first | omega | (simp only [size_alloc, size_setB, size_drew]; omega)) | exact Hb.setSame (by assumption) | refine Hb.set (by first | omega | (simp only [size_alloc, size_setB, size_drew]; omega)) ?_ ))) (Ce.h (by first | assumption | exact ⟨rfl⟩)) ?_
            refine WO_p (PS_assign_int rfl) ?_
            refine WO_nil ?_
            refine thn_normal ?_
            refine W_block ?_
            refine W_loopN (fun m ρ w' => ∃ (j : Nat) (U5 p5 : List Int), j = m ∧ j ≤ 16 ∧ U5.length = 17 ∧ UL U5 ∧ p5.length = 3 ∧ By8 p5 ∧ Fr [(4, .pointer (some ⟨b4, 0, none⟩)), (5, .pointer (some ⟨b5, 0, none⟩)), (6, .int .u8 n), (13, .pointer (some ⟨b13, 0, none⟩)), (14, .pointer (some ⟨b14, 0, none⟩)), (15, .int .u8 (64 - (ln : Int))), (16, .int .u8 j)] ρ ∧ Ext w w' ∧ v14.heap.size ≤ w'.heap.size ∧ Hb w' b4 (.cells (ic .u64 (List.replicate 8 0)) 224 (0, 0)) ∧ Hb w' b5 (.cells (ic .u8 p5) 281 (0, 0)) ∧ Hb w' b13 (.cells (ic .u64 U5) 313 (0, 0)) ∧ Hb w' b14 (.cells (ic .u64 Y24) 224 (0, 0))) (q - n + 1) ?_ ?_
            · exact ⟨q - n + 1, U23, p9, rfl, by omega, by have := hU23.len; omega, hUL23, by omega, hBy9, ⟨rfl, rfl, rfl, rfl, rfl, rfl, congrArg (Value.int .u8) (by omega), trivial⟩, hU24.ext1 (by repeat (first | assumption | exact Ext.refl _ | refine Ext.alloc ?_ _ | refine Ext.drew ?_ | refine Ext.setB ?_ (by first | omega | (simp only [size_alloc, size_setB, size_drew]; omega)) _ | refine Ext.trans ?_ (by assumption))) (by omega), by omega, Hb.mk (Hb.h (by repeat (first | assumption | exact Hb.newY _ _ | refine Hb.alloc ?_ | refine Hb.drew ?_ | refine Hb.ext (by assumption) ?_ | exact Hb.setSameL (by first | omega | (simp only [size_alloc, size_setB, size_drew]; omega)) | exact Hb.setSame (by assumption) | refine Hb.set (by first | omega | (simp only [size_alloc, size_setB, size_drew]; omega)) ?_ ))), Hb.mk (Hb.h (by repeat (first | assumption | exact Hb.newY _ _ | refine Hb.alloc ?_ | refine Hb.drew ?_ | refine Hb.ext (by assumption) ?_ | exact Hb.setSameL (by first | omega | (simp only [size_alloc, size_setB, size_drew]; omega)) | exact Hb.setSame (by assumption) | refine Hb.set (by first | omega | (simp only [size_alloc, size_setB, size_drew]; omega)) ?_ ))), Hb.mk (Hb.h (by repeat (first | assumption | exact Hb.newY _ _ | refine Hb.alloc ?_ | refine Hb.drew ?_ | refine Hb.ext (by assumption) ?_ | exact Hb.setSameL (by first | omega | (simp only [size_alloc, size_setB, size_drew]; omega)) | exact Hb.setSame (by assumption) | refine Hb.set (by first | omega | (simp only [size_alloc, size_setB, size_drew]; omega)) ?_ ))), Hb.mk (Hb.h (by repeat (first | assumption | exact Hb.newY _ _ | refine Hb.alloc ?_ | refine Hb.drew ?_ | refine Hb.ext (by assumption) ?_ | exact Hb.setSameL (by first | omega | (simp only [size_alloc, size_setB, size_drew]; omega)) | exact Hb.setSame (by assumption) | refine Hb.set (by first | omega | (simp only [size_alloc, size_setB, size_drew]; omega)) ?_ )))⟩
            intro m5 ρ5 w5 hI
            obtain ⟨j, U5, p5, hjm, hj8, hu5, hU5, hp5, hP5, hF5, hE5', hz5v, hb45, hb55, hb135, hb145⟩ := hI
            refine W_env _ hF5 ?_
            have hz5 := hE5'.1
            have hp5b := by8_get hP5 1
            have hp5c := by8_get hP5 2
            have hce1 : Ce (ic .u8 p5) (0 + 1) (.int .u8 (p5.getD 1 0)) := by have h := ce_ic (k := .u8) (l := p5) (i := 1) (by omega); simpa using h
            refine W_seq ?_
            refine W_seq ?_
            refine W_region rfl ?_
            refine WO_p (PS_move_int rfl) ?_
            refine WO_p (PS_gtr rfl rfl) ?_
            refine WO_nil ?_
            refine thn_normal ?_
            refine W_if rfl (fun hb20 => ?_) (fun hb20 => ?_)
            · have hb20p := hb20.h; try simp only [al_ete, al_dfn, Bool.not_eq_true', Bool.not_eq_false', al_ne, Bool.not_not, al_nn] at hb20p
              refine W_skip ?_
              refine thn_normal ?_
              refine W_seq ?_
              refine W_block ?_
              refine W_seq ?_
              refine W_region rfl ?_
              refine WO_p (PS_move_int rfl) ?_
              refine WO_p (PS_move_int rfl) ?_
              refine WO_p (PS_sub_u8n rfl rfl (by omega) (by omega)) ?_
              rw [show (j : Int) - 1 = ((j - 1 : Nat) : Int) by omega]
              refine WO_call Hvad.call277 (by rfl) (Ret.mono (roundWide_spec b13 b14 n (j - 1) 313 224 U5 Y24 _ (Hb.mk (Hb.h (by repeat (first | assumption | exact Hb.newY _ _ | refine Hb.alloc ?_ | refine Hb.drew ?_ | refine Hb.ext (by assumption) ?_ | exact Hb.setSameL (by first | omega | (simp only [size_alloc, size_setB, size_drew]; omega)) | exact Hb.setSame (by assumption) | refine Hb.set (by first | omega | (simp only [size_alloc, size_setB, size_drew]; omega)) ?_ )))) (Hb.mk (Hb.h (by repeat (first | assumption | exact Hb.newY _ _ | refine Hb.alloc ?_ | refine Hb.drew ?_ | refine Hb.ext (by assumption) ?_ | exact Hb.setSameL (by first | omega | (simp only [size_alloc, size_setB, size_drew]; omega)) | exact Hb.setSame (by assumption) | refine Hb.set (by first | omega | (simp only [size_alloc, size_setB, size_drew]; omega)) ?_ )))) (by omega) hu5 hU5 (by omega) hUL24 (by omega) (by omega)) ?_)
              rintro _ w6 ⟨hT6, q6, f6, z6, rfl, hq6, hf6⟩
              obtain ⟨U6, hU6, hUL6⟩ := hT6.ut
              have hz6 := hU6.keep.sz
              have hE6 : Ext w w6 := hU6.ext1 (by repeat (first | assumption | exact Ext.refl _ | refine Ext.alloc ?_ _ | refine Ext.drew ?_ | refine Ext.setB ?_ (by first | omega | (simp only [size_alloc, size_setB, size_drew]; omega)) _ | exact Ext.trans (by assumption) (by assumption) | refine Ext.trans ?_ (by assumption))) (by omega)
              have hb46 := hU6.other (Hb.mk (Hb.h (by repeat (first | assumption | exact Hb.newY _ _ | refine Hb.alloc ?_ | refine Hb.drew ?_ | refine Hb.ext (by assumption) ?_ | exact Hb.setSameL (by first | omega | (simp only [size_alloc, size_setB, size_drew]; omega)) | exact Hb.setSame (by assumption) | refine Hb.set (by first | omega | (simp only [size_alloc, size_setB, size_drew]; omega)) ?_ ))) : Hb _ b4 (.cells (ic .u64 (List.replicate 8 0)) 224 (0, 0))) (by omega)
              have hb56 := hU6.other (Hb.mk (Hb.h (by repeat (first | assumption | exact Hb.newY _ _ | refine Hb.alloc ?_ | refine Hb.drew ?_ | refine Hb.ext (by assumption) ?_ | exact Hb.setSameL (by first | omega | (simp only [size_alloc, size_setB, size_drew]; omega)) | exact Hb.setSame (by assumption) | refine Hb.set (by first | omega | (simp only [size_alloc, size_setB, size_drew]; omega)) ?_ ))) : Hb _ b5 (.cells (ic .u8 p5) 281 (0, 0))) (by omega)
              have hb146 := hU6.other (Hb.mk (Hb.h (by repeat (first | assumption | exact Hb.newY _ _ | refine Hb.alloc ?_ | refine Hb.drew ?_ | refine Hb.ext (by assumption) ?_ | exact Hb.setSameL (by first | omega | (simp only [size_alloc, size_setB, size_drew]; omega)) | exact Hb.setSame (by assumption) | refine Hb.set (by first | omega | (simp only [size_alloc, size_setB, size_drew]; omega)) ?_ ))) : Hb _ b14 (.cells (ic .u64 Y24) 224 (0, 0))) (by omega)
              have hb136 := hU6.hb
              refine WO_p (PS_move_tuple rfl) ?_
              refine WO_p (PS_extract_int rfl rfl) ?_
              refine WO_p (PS_extract_int rfl rfl) ?_
              refine WO_p (PS_extract_bool rfl rfl) ?_
              refine WO_p (PS_assign_int rfl) ?_
              refine WO_p (PS_assign_int rfl) ?_
              refine WO_p (PS_assign_bool rfl) ?_
              refine WO_nil ?_
              refine thn_normal ?_
              refine W_seq ?_
              refine W_region rfl ?_
              refine WO_p (PS_fieldAddr 1 Hvad.runUnderlying281 rfl Hvad.sizeOf5 rfl rfl) ?_
              refine WO_load (.int _ _) Hvad.isAgg5 rfl (Hb.h (by repeat (first | assumption | exact Hb.newY _ _ | refine Hb.alloc ?_ | refine Hb.drew ?_ | refine Hb.ext (by assumption) ?_ | exact Hb.setSameL (by first | omega | (simp only [size_alloc, size_setB, size_drew]; omega)) | exact Hb.setSame (by assumption) | refine Hb.set (by first | omega | (simp only [size_alloc, size_setB, size_drew]; omega)) ?_ ))) (Ce.h (by first | assumption | exact ⟨rfl⟩)) ?_
              refine WO_p (PS_move_int rfl) ?_
              refine WO_p (PS_add_u8w rfl rfl) ?_
              refine WO_p (PS_fieldAddr 1 Hvad.runUnderlying281 rfl Hvad.sizeOf5 rfl rfl) ?_
              refine WO_storeB (b := b5) (T := 281) (L := p5) Hvad.sizeOf5 rfl rfl (Hb.mk (Hb.h (by repeat (first | assumption | exact Hb.newY _ _ | refine Hb.alloc ?_ | refine Hb.drew ?_ | refine Hb.ext (by assumption) ?_ | exact Hb.setSameL (by first | omega | (simp only [size_alloc, size_setB, size_drew]; omega)) | exact Hb.setSame (by assumption) | refine Hb.set (by first | omega | (simp only [size_alloc, size_setB, size_drew]; omega)) ?_ )))) (by omega) (by omega) ?_
              intro w8 p8 hT8
              have hz8 := hT8.keep.sz
              have hBy8 : By8 p8 := hT8.ty hP5
              have hp8 : p8.length = 3 := hT8.len.trans hp5
              have hp8c := by8_get hBy8 2
              have hE8 : Ext w w8 := hT8.ext1 (by repeat (first | assumption | exact Ext.refl _ | refine Ext.alloc ?_ _ | refine Ext.drew ?_ | refine Ext.setB ?_ (by first | omega | (simp only [size_alloc, size_setB, size_drew]; omega)) _ | exact Ext.trans (by assumption) (by assumption) | refine Ext.trans ?_ (by assumption))) (by omega)
              have hb48 := hT8.other (Hb.mk (Hb.h (by repeat (first | assumption | exact Hb.newY _ _ | refine Hb.alloc ?_ | refine Hb.drew ?_ | refine Hb.ext (by assumption) ?_ | exact Hb.setSameL (by first | omega | (simp only [size_alloc, size_setB, size_drew]; omega)) | exact Hb.setSame (by assumption) | refine Hb.set (by first | omega | (simp only [size_alloc, size_setB, size_drew]; omega)) ?_ ))) : Hb _ b4 (.cells (ic .u64 (List.replicate 8 0)) 224 (0, 0))) (by omega)
              have hb138 := hT8.other (Hb.mk (Hb.h (by repeat (first | assumption | exact Hb.newY _ _ | refine Hb.alloc ?_ | refine Hb.drew ?_ | refine Hb.ext (by assumption) ?_ | exact Hb.setSameL (by first | omega | (simp only [size_alloc, size_setB, size_drew]; omega)) | exact Hb.setSame (by assumption) | refine Hb.set (by first | omega | (simp only [size_alloc, size_setB, size_drew]; omega)) ?_ ))) : Hb _ b13 (.cells (ic .u64 U6) 313 (0, 0))) (by omega)
              have hb148 := hT8.other (Hb.mk (Hb.h (by repeat (first | assumption | exact Hb.newY _ _ | refine Hb.alloc ?_ | refine Hb.drew ?_ | refine Hb.ext (by assumption) ?_ | exact Hb.setSameL (by first | omega | (simp only [size_alloc, size_setB, size_drew]; omega)) | exact Hb.setSame (by assumption) | refine Hb.set (by first | omega | (simp only [size_alloc, size_setB, size_drew]; omega)) ?_ ))) : Hb _ b14 (.cells (ic .u64 Y24) 224 (0, 0))) (by omega)
              have hb58 := hT8.hb
              have hce2 : Ce (ic .u8 p8) (0 + 2) (.int .u8 (p8.getD 2 0)) := by have h := ce_ic (k := .u8) (l := p8) (i := 2) (by omega); simpa using h
              refine WO_nil ?_
              refine thn_normal ?_
              refine W_seq ?_
              refine W_region rfl ?_
              refine WO_p (PS_move_bool rfl) ?_
              refine WO_nil ?_
              refine thn_normal ?_
              refine W_if rfl (fun hb23 => ?_) (fun hb23 => ?_)
              · have hb23p := hb23.h; try simp only [al_ete, al_dfn, Bool.not_eq_true', Bool.not_eq_false', al_ne, Bool.not_not, al_nn] at hb23p
                refine W_region rfl ?_
                refine WO_p (PS_fieldAddr 2 Hvad.runUnderlying281 rfl Hvad.sizeOf5 rfl rfl) ?_
                refine WO_load (.int _ _) Hvad.isAgg5 rfl (Hb.h (by repeat (first | assumption | exact Hb.newY _ _ | refine Hb.alloc ?_ | refine Hb.drew ?_ | refine Hb.ext (by assumption) ?_ | exact Hb.setSameL (by first | omega | (simp only [size_alloc, size_setB, size_drew]; omega)) | exact Hb.setSame (by assumption) | refine Hb.set (by first | omega | (simp only [size_alloc, size_setB, size_drew]; omega)) ?_ ))) (Ce.h (by first | assumption | exact ⟨rfl⟩)) ?_
                refine WO_p (PS_add_u8w rfl rfl) ?_
                refine WO_p (PS_fieldAddr 2 Hvad.runUnderlying281 rfl Hvad.sizeOf5 rfl rfl) ?_
                refine WO_storeB (b := b5) (T := 281) (L := p8) Hvad.sizeOf5 rfl rfl (Hb.mk (Hb.h (by repeat (first | assumption | exact Hb.newY _ _ | refine Hb.alloc ?_ | refine Hb.drew ?_ | refine Hb.ext (by assumption) ?_ | exact Hb.setSameL (by first | omega | (simp only [size_alloc, size_setB, size_drew]; omega)) | exact Hb.setSame (by assumption) | refine Hb.set (by first | omega | (simp only [size_alloc, size_setB, size_drew]; omega)) ?_ )))) (by omega) (by omega) ?_
                intro w31 p31 hT31
                have hz31 := hT31.keep.sz
                have hBy31 : By8 p31 := hT31.ty hBy8
                have hp31 : p31.length = 3 := hT31.len.trans hp8
                have hE31 : Ext w w31 := hT31.ext1 (by repeat (first | assumption | exact Ext.refl _ | refine Ext.alloc ?_ _ | refine Ext.drew ?_ | refine Ext.setB ?_ (by first | omega | (simp only [size_alloc, size_setB, size_drew]; omega)) _ | exact Ext.trans (by assumption) (by assumption) | refine Ext.trans ?_ (by assumption))) (by omega)
                have hb431 := hT31.other (Hb.mk (Hb.h (by repeat (first | assumption | exact Hb.newY _ _ | refine Hb.alloc ?_ | refine Hb.drew ?_ | refine Hb.ext (by assumption) ?_ | exact Hb.setSameL (by first | omega | (simp only [size_alloc, size_setB, size_drew]; omega)) | exact Hb.setSame (by assumption) | refine Hb.set (by first | omega | (simp only [size_alloc, size_setB, size_drew]; omega)) ?_ ))) : Hb _ b4 (.cells (ic .u64 (List.replicate 8 0)) 224 (0, 0))) (by omega)
                have hb1331 := hT31.other (Hb.mk (Hb.h (by repeat (first | assumption | exact Hb.newY _ _ | refine Hb.alloc ?_ | refine Hb.drew ?_ | refine Hb.ext (by assumption) ?_ | exact Hb.setSameL (by first | omega | (simp only [size_alloc, size_setB, size_drew]; omega)) | exact Hb.setSame (by assumption) | refine Hb.set (by first | omega | (simp only [size_alloc, size_setB, size_drew]; omega)) ?_ ))) : Hb _ b13 (.cells (ic .u64 U6) 313 (0, 0))) (by omega)
                have hb1431 := hT31.other (Hb.mk (Hb.h (by repeat (first | assumption | exact Hb.newY _ _ | refine Hb.alloc ?_ | refine Hb.drew ?_ | refine Hb.ext (by assumption) ?_ | exact Hb.setSameL (by first | omega | (simp only [size_alloc, size_setB, size_drew]; omega)) | exact Hb.setSame (by assumption) | refine Hb.set (by first | omega | (simp only [size_alloc, size_setB, size_drew]; omega)) ?_ ))) : Hb _ b14 (.cells (ic .u64 Y24) 224 (0, 0))) (by omega)
                have hb531 := hT31.hb
                refine WO_nil ?_
                refine inBlk_normal ?_
                refine thn_normal ?_
                refine W_region rfl ?_
                refine WO_p (PS_move_int rfl) ?_
                refine WO_p (PS_sub_u8n rfl rfl (by omega) (by omega)) ?_
                refine WO_p (PS_assign_int rfl) ?_
                refine WO_nil ?_
                refine thn_normal ?_
                exact ⟨m5 - 1, by omega, j - 1, U6, p31, by omega, by omega, by have := hU6.len; omega, hUL6, hp31, hBy31, ⟨rfl, rfl, rfl, rfl, rfl, rfl, congrArg (Value.int .u8) (by omega), trivial⟩, hE31, by omega, hb431, hb531, hb1331, hb1431⟩
              · have hb23p := hb23.h; try simp only [al_ete, al_dfn, Bool.not_eq_true', Bool.not_eq_false', al_ne, Bool.not_not, al_nn] at hb23p
                refine W_skip ?_
                refine inBlk_normal ?_
                refine thn_normal ?_
                refine W_region rfl ?_
                refine WO_p (PS_move_int rfl) ?_
                refine WO_p (PS_sub_u8n rfl rfl (by omega) (by omega)) ?_
                refine WO_p (PS_assign_int rfl) ?_
                refine WO_nil ?_
                refine thn_normal ?_
                exact ⟨m5 - 1, by omega, j - 1, U6, p8, by omega, by omega, by have := hU6.len; omega, hUL6, hp8, hBy8, ⟨rfl, rfl, rfl, rfl, rfl, rfl, congrArg (Value.int .u8) (by omega), trivial⟩, hE8, by omega, hb48, hb58, hb138, hb148⟩
            · have hb20p := hb20.h; try simp only [al_ete, al_dfn, Bool.not_eq_true', Bool.not_eq_false', al_ne, Bool.not_not, al_nn] at hb20p
              refine W_exit ?_
              refine thn_exit ?_
              refine thn_exit ?_
              refine inBlk_exit ?_
              refine thn_normal ?_
              refine W_seq ?_
              have hu58 : (U5.take 8).length = 8 := by simp [hu5]
              have hu5x : Xt (ic .u64 U5) 0 (0 + 8) (ic .u64 (U5.take 8)) := by have h := Xt.ic .u64 U5 0 8 (by omega); rwa [List.drop_zero] at h
              have hW32 : UL (U5.take 8) := fun z hz => hU5 z (List.mem_of_mem_take hz)
              refine W_region rfl ?_
              refine WO_p (PS_slA_h Hvad.runUnderlying313 Hvad.sizeOf26 rfl rfl (by omega) (by omega) (by omega)) ?_
              refine WO_p (PS_arrayAt Hvad.runUnderlying224 rfl (by omega)) ?_
              refine WO_loadA _ Hvad.isAgg224 Hvad.sizeOf224 rfl (Hb.h (by repeat (first | assumption | exact Hb.newY _ _ | refine Hb.alloc ?_ | refine Hb.drew ?_ | refine Hb.ext (by assumption) ?_ | exact Hb.setSameL (by first | omega | (simp only [size_alloc, size_setB, size_drew]; omega)) | exact Hb.setSame (by assumption) | refine Hb.set (by first | omega | (simp only [size_alloc, size_setB, size_drew]; omega)) ?_ ))) (by first | omega | assumption | rfl | decide | exact Nat.le_refl _ | (simp only [size_ic, Value.cells]; omega) | simp) (Xt.h (by first | assumption | exact Xt.whole rfl rfl | exact Xt.whole rfl (by simp only [size_ic, Value.cells]; omega) | exact ⟨rfl⟩)) ?_
              refine WO_storeW Hvad.sizeOf224 rfl (v := .agg _) rfl (Hb.h (by repeat (first | assumption | exact Hb.newY _ _ | refine Hb.alloc ?_ | refine Hb.drew ?_ | refine Hb.ext (by assumption) ?_ | exact Hb.setSameL (by first | omega | (simp only [size_alloc, size_setB, size_drew]; omega)) | exact Hb.setSame (by assumption) | refine Hb.set (by first | omega | (simp only [size_alloc, size_setB, size_drew]; omega)) ?_ ))) rfl (by simp only [size_ic, Value.cells]; omega) (by first | rfl | (simp only [size_ic]; omega)) oneCell_ic ?_
              change WO _ _ _ _ _ (setB _ _ (.cells (ic .u64 (U5.take 8)) 224 (0, 0)))
              refine WO_nil ?_
              refine thn_normal ?_
              refine W_seq ?_
              refine W_region rfl ?_
              refine WO_p (PS_slA Hvad.runUnderlying224 Hvad.sizeOf26 rfl (by omega)) ?_
              refine WO_p (PS_move_int rfl) ?_
              refine WO_call Hvad.call278 (by rfl) (Ret.mono (shiftDown_spec b4 0 8 _ 224 (U5.take 8) _ _ (Hb.mk (Hb.h (by repeat (first | assumption | exact Hb.newY _ _ | refine Hb.alloc ?_ | refine Hb.drew ?_ | refine Hb.ext (by assumption) ?_ | exact Hb.setSameL (by first | omega | (simp only [size_alloc, size_setB, size_drew]; omega)) | exact Hb.setSame (by assumption) | refine Hb.set (by first | omega | (simp only [size_alloc, size_setB, size_drew]; omega)) ?_ )))) hW32 (by omega) (by omega) (by omega)) ?_)
              rintro _ w33 ⟨rfl, hT33⟩
              obtain ⟨R34, hU33, hUL33⟩ := hT33.ut
              have hz33 := hU33.keep.sz
              try simp only [size_setB] at hz33
              have hR34l : R34.length = 8 := by rw [hU33.len]; exact hu58
              have hE33 : Ext w w33 := hU33.ext1 (Ext.setB hE5' (by omega) _) (by omega)
              have hb533 := hU33.other (Hb.mk (Hb.h (by repeat (first | assumption | exact Hb.newY _ _ | refine Hb.alloc ?_ | refine Hb.drew ?_ | refine Hb.ext (by assumption) ?_ | exact Hb.setSameL (by first | omega | (simp only [size_alloc, size_setB, size_drew]; omega)) | exact Hb.setSame (by assumption) | refine Hb.set (by first | omega | (simp only [size_alloc, size_setB, size_drew]; omega)) ?_ ))) : Hb _ b5 (.cells (ic .u8 p5) 281 (0, 0))) (by omega)
              have hb433 := hU33.hb
              refine WO_nil ?_
              refine thn_normal ?_
              refine W_seq ?_
              refine W_drawT2 [false, false, true, false] (RetW b4 b5 R34 p5) hmix (by kernel_rfl) rfl ⟨Hb.mk (Hb.h (by repeat (first | assumption | exact Hb.newY _ _ | refine Hb.alloc ?_ | refine Hb.drew ?_ | refine Hb.ext (by assumption) ?_ | exact Hb.setSameL (by first | omega | (simp only [size_alloc, size_setB, size_drew]; omega)) | exact Hb.setSame (by assumption) | refine Hb.set (by first | omega | (simp only [size_alloc, size_setB, size_drew]; omega)) ?_ ))), Hb.mk (Hb.h (by repeat (first | assumption | exact Hb.newY _ _ | refine Hb.alloc ?_ | refine Hb.drew ?_ | refine Hb.ext (by assumption) ?_ | exact Hb.setSameL (by first | omega | (simp only [size_alloc, size_setB, size_drew]; omega)) | exact Hb.setSame (by assumption) | refine Hb.set (by first | omega | (simp only [size_alloc, size_setB, size_drew]; omega)) ?_ )))⟩ ?_
              intro hSt
              have hSt4 := hSt.h4
              have hSt5 := hSt.h5
              have hSt5l := hSt5.lt
              have hSt4l := hSt4.lt
              try simp only [size_drew] at hSt5l hSt4l
              have hRs : (Value.agg (ic .u64 R34)).cells.size = 8 := by simp only [Value.cells, size_ic]; first | rfl | omega
              have hps : (Value.agg (ic .u8 p5)).cells.size = 3 := by simp only [Value.cells, size_ic]; first | rfl | omega
              refine WH_loadA0 (ic .u64 R34) Hvad.isAgg224 Hvad.sizeOf224 rfl (fun w' hS => row_at hS.h4 (by first | rfl | omega)) ?_
              refine WH_loadA0 (ic .u8 p5) Hvad.isAgg281 Hvad.sizeOf281 rfl (fun w' hS => row_at hS.h5 (by first | rfl | omega)) ?_
              first | refine WH_storeW Hvad.sizeOf224 rfl (v := .agg _) rfl hSt4.h rfl hRs hRs oneCell_ic (fun _ => ⟨Hb.setSame hSt4, Hb.set (by omega) hSt5⟩) ?_ | refine WH_storeW Hvad.sizeOf281 rfl (v := .agg _) rfl (Hb.h (Hb.set (by omega) hSt5)) rfl hps hps oneCell_ic (fun h => by cases h) ?_
              first | refine WH_storeW Hvad.sizeOf224 rfl (v := .agg _) rfl hSt4.h rfl hRs hRs oneCell_ic (fun _ => ⟨Hb.setSame hSt4, Hb.set (by omega) hSt5⟩) ?_ | refine WH_storeW Hvad.sizeOf281 rfl (v := .agg _) rfl (Hb.h (Hb.set (by omega) hSt5)) rfl hps hps oneCell_ic (fun h => by cases h) ?_
              refine WH_nil ?_
              refine thn_normal ?_
              refine W_ret ?_
              refine bodyQ_cell2 Hvad.results238 rfl rfl Hvad.isAgg224 Hvad.sizeOf224 Hvad.isAgg281 Hvad.sizeOf281 rfl (Hb.h (by repeat (first | assumption | exact Hb.newY _ _ | refine Hb.alloc ?_ | refine Hb.drew ?_ | refine Hb.ext (by assumption) ?_ | exact Hb.setSameL (by first | omega | (simp only [size_alloc, size_setB, size_drew]; omega)) | exact Hb.setSame (by assumption) | refine Hb.set (by first | omega | (simp only [size_alloc, size_setB, size_drew]; omega)) ?_ ))) (by first | omega | assumption | rfl | decide | exact Nat.le_refl _ | (simp only [size_ic, Value.cells]; omega) | simp) rfl (Hb.h (by repeat (first | assumption | exact Hb.newY _ _ | refine Hb.alloc ?_ | refine Hb.drew ?_ | refine Hb.ext (by assumption) ?_ | exact Hb.setSameL (by first | omega | (simp only [size_alloc, size_setB, size_drew]; omega)) | exact Hb.setSame (by assumption) | refine Hb.set (by first | omega | (simp only [size_alloc, size_setB, size_drew]; omega)) ?_ ))) (by first | omega | assumption | rfl | decide | exact Nat.le_refl _ | (simp only [size_ic, Value.cells]; omega) | simp) ?_
              exact ⟨Ext.setB (Ext.setB (Ext.drew hE33) (by omega) _) (by omega) _, _, _, rfl, hR34l, hUL33, hp5⟩
  · have hb3p := hb3.h; try simp only [al_ete, al_dfn, Bool.not_eq_true', Bool.not_eq_false', al_ne, Bool.not_not, al_nn] at hb3p
    refine WO_guardF rfl rfl hb3.h ?_
    refine WO_guardF rfl rfl hb3.h ?_
    refine WO_guardF rfl rfl hb3.h ?_
    refine WO_guardF rfl rfl hb3.h ?_
    refine WO_guardF rfl rfl hb3.h ?_
    refine WO_guardF rfl rfl hb3.h ?_
    refine WO_guardF rfl rfl hb3.h ?_
    refine WO_p (PS_pickF rfl hb3.h rfl) ?_
    refine WO_nil ?_
    refine thn_normal ?_
    refine W_condF rfl rfl ?_
    refine W_exit ?_
    refine thn_exit ?_
    refine thn_exit ?_
    refine inBlk_exit ?_
    refine thn_normal ?_
    refine W_seq ?_
    refine W_seq ?_
    refine W_region rfl ?_
    refine WO_p (PS_move_int rfl) ?_
    refine WO_p (PS_eql rfl rfl) ?_
    refine WO_nil ?_
    refine thn_normal ?_
    refine W_if rfl (fun hb26 => ?_) (fun hb26 => ?_)
    · have hb26p := hb26.h; try simp only [al_ete, al_dfn, Bool.not_eq_true', Bool.not_eq_false', al_ne, Bool.not_not, al_nn] at hb26p
      refine W_seq ?_
      refine W_drawT2 [false, false, true, false] (RetW b4 b5 (List.replicate 8 0) [0, 0, 0]) hmix (by kernel_rfl) rfl ⟨Hb.mk (Hb.h (by repeat (first | assumption | exact Hb.newY _ _ | refine Hb.alloc ?_ | refine Hb.drew ?_ | refine Hb.ext (by assumption) ?_ | exact Hb.setSameL (by first | omega | (simp only [size_alloc, size_setB, size_drew]; omega)) | exact Hb.setSame (by assumption) | refine Hb.set (by first | omega | (simp only [size_alloc, size_setB, size_drew]; omega)) ?_ ))), Hb.mk (Hb.h (by repeat (first | assumption | exact Hb.newY _ _ | refine Hb.alloc ?_ | refine Hb.drew ?_ | refine Hb.ext (by assumption) ?_ | exact Hb.setSameL (by first | omega | (simp only [size_alloc, size_setB, size_drew]; omega)) | exact Hb.setSame (by assumption) | refine Hb.set (by first | omega | (simp only [size_alloc, size_setB, size_drew]; omega)) ?_ )))⟩ ?_
      intro hSt
      have hSt4 := hSt.h4
      have hSt5 := hSt.h5
      have hSt5l := hSt5.lt
      have hSt4l := hSt4.lt
      try simp only [size_drew] at hSt5l hSt4l
      have hRs : (Value.agg (ic .u64 (List.replicate 8 0))).cells.size = 8 := by simp only [Value.cells, size_ic]; first | rfl | omega
      have hps : (Value.agg (ic .u8 [0, 0, 0])).cells.size = 3 := by simp only [Value.cells, size_ic]; first | rfl | omega
      refine WH_loadA0 (ic .u64 (List.replicate 8 0)) Hvad.isAgg224 Hvad.sizeOf224 rfl (fun w' hS => row_at hS.h4 (by first | rfl | omega)) ?_
      refine WH_loadA0 (ic .u8 [0, 0, 0]) Hvad.isAgg281 Hvad.sizeOf281 rfl (fun w' hS => row_at hS.h5 (by first | rfl | omega)) ?_
      first | refine WH_storeW Hvad.sizeOf224 rfl (v := .agg _) rfl hSt4.h rfl hRs hRs oneCell_ic (fun _ => ⟨Hb.setSame hSt4, Hb.set (by omega) hSt5⟩) ?_ | refine WH_storeW Hvad.sizeOf281 rfl (v := .agg _) rfl (Hb.h (Hb.set (by omega) hSt5)) rfl hps hps oneCell_ic (fun h => by cases h) ?_
      first | refine WH_storeW Hvad.sizeOf224 rfl (v := .agg _) rfl hSt4.h rfl hRs hRs oneCell_ic (fun _ => ⟨Hb.setSame hSt4, Hb.set (by omega) hSt5⟩) ?_ | refine WH_storeW Hvad.sizeOf281 rfl (v := .agg _) rfl (Hb.h (Hb.set (by omega) hSt5)) rfl hps hps oneCell_ic (fun h => by cases h) ?_
      refine WH_nil ?_
      refine thn_normal ?_
      refine W_ret ?_
      refine thn_ret ?_
      refine bodyQ_cell2 Hvad.results238 rfl rfl Hvad.isAgg224 Hvad.sizeOf224 Hvad.isAgg281 Hvad.sizeOf281 rfl (Hb.h (by repeat (first | assumption | exact Hb.newY _ _ | refine Hb.alloc ?_ | refine Hb.drew ?_ | refine Hb.ext (by assumption) ?_ | exact Hb.setSameL (by first | omega | (simp only [size_alloc, size_setB, size_drew]; omega)) | exact Hb.setSame (by assumption) | refine Hb.set (by first | omega | (simp only [size_alloc, size_setB, size_drew]; omega)) ?_ ))) (by first | omega | assumption | rfl | decide | exact Nat.le_refl _ | (simp only [size_ic, Value.cells]; omega) | simp) rfl (Hb.h (by repeat (first | assumption | exact Hb.newY _ _ | refine Hb.alloc ?_ | refine Hb.drew ?_ | refine Hb.ext (by assumption) ?_ | exact Hb.setSameL (by first | omega | (simp only [size_alloc, size_setB, size_drew]; omega)) | exact Hb.setSame (by assumption) | refine Hb.set (by first | omega | (simp only [size_alloc, size_setB, size_drew]; omega)) ?_ ))) (by first | omega | assumption | rfl | decide | exact Nat.le_refl _ | (simp only [size_ic, Value.cells]; omega) | simp) ?_
      exact ⟨Ext.setB (Ext.setB (Ext.drew hEw5) (by omega) _) (by omega) _, _, _, rfl, hr8l, ULr 8, rfl⟩
    · have hb26p := hb26.h; try simp only [al_ete, al_dfn, Bool.not_eq_true', Bool.not_eq_false', al_ne, Bool.not_not, al_nn] at hb26p
      refine W_skip ?_
      refine thn_normal ?_
      refine W_seq ?_
      refine W_seq ?_
      refine W_region rfl ?_
      refine WO_p (PS_move_int rfl) ?_
      refine WO_p (PS_move_int rfl) ?_
      refine WO_p (PS_lss rfl rfl) ?_
      refine WO_nil ?_
      refine thn_normal ?_
      refine W_if rfl (fun hb28 => ?_) (fun hb28 => ?_)
      · have hb28p := hb28.h; try simp only [al_ete, al_dfn, Bool.not_eq_true', Bool.not_eq_false', al_ne, Bool.not_not, al_nn] at hb28p
        refine W_seq ?_
        refine W_drawT2 [false, false, false, false, false, false, true, false] (fun w' => Hb w' bx (.cells (ic .u64 X) Tx (0, 0)) ∧ Hb w' b5 (.cells (ic .u8 [0, 0, 0]) 281 (0, 0))) hmix (by kernel_rfl) rfl ⟨Hb.mk (Hb.h (by repeat (first | assumption | exact Hb.newY _ _ | refine Hb.alloc ?_ | refine Hb.drew ?_ | refine Hb.ext (by assumption) ?_ | exact Hb.setSameL (by first | omega | (simp only [size_alloc, size_setB, size_drew]; omega)) | exact Hb.setSame (by assumption) | refine Hb.set (by first | omega | (simp only [size_alloc, size_setB, size_drew]; omega)) ?_ ))), Hb.mk (Hb.h (by repeat (first | assumption | exact Hb.newY _ _ | refine Hb.alloc ?_ | refine Hb.drew ?_ | refine Hb.ext (by assumption) ?_ | exact Hb.setSameL (by first | omega | (simp only [size_alloc, size_setB, size_drew]; omega)) | exact Hb.setSame (by assumption) | refine Hb.set (by first | omega | (simp only [size_alloc, size_setB, size_drew]; omega)) ?_ )))⟩ ?_
        intro hSt
        have hSt0 := hSt.1
        have hSt5 := hSt.2
        have hSt5l := hSt5.lt
        try simp only [size_drew] at hSt5l
        refine WH_p (PS_move_ptr rfl) rfl ?_
        refine WH_p (PS_nilCheck rfl) rfl ?_
        refine WH_p (PS_slA_h Hvad.runUnderlying279 Hvad.sizeOf26 rfl rfl (by omega) (by omega) (by omega)) rfl ?_
        refine WH_p (PS_arrayAt Hvad.runUnderlying224 rfl (by omega)) rfl ?_
        refine WH_loadA0 (ic .u64 (X.take 8)) Hvad.isAgg224 Hvad.sizeOf224 rfl (fun w' hS => ⟨_, _, _, hS.1.h, by rw [size_ic]; omega, hxt8.h⟩) ?_
        refine WH_loadA0 (ic .u8 [0, 0, 0]) Hvad.isAgg281 Hvad.sizeOf281 rfl (fun w' hS => row_at hS.2 rfl) ?_
        first | refine WH_storeW Hvad.sizeOf224 rfl (v := .agg _) rfl (Hb.h (by repeat (first | assumption | exact Hb.newY _ _ | refine Hb.alloc ?_ | refine Hb.drew ?_ | refine Hb.ext (by assumption) ?_ | exact Hb.setSameL (by first | omega | (simp only [size_alloc, size_setB, size_drew]; omega)) | exact Hb.setSame (by assumption) | refine Hb.set (by first | omega | (simp only [size_alloc, size_setB, size_drew]; omega)) ?_ ))) rfl (by simp only [size_ic, Value.cells]; omega) (by first | rfl | (simp only [size_ic]; omega)) oneCell_ic (fun _ => ⟨Hb.set (by omega) hSt0, Hb.set (by omega) hSt5⟩) ?_ | refine WH_storeW Hvad.sizeOf281 rfl (v := .agg _) rfl (Hb.h (Hb.set (by omega) hSt5)) rfl rfl rfl oneCell_ic (fun h => by cases h) ?_
        first | refine WH_storeW Hvad.sizeOf224 rfl (v := .agg _) rfl (Hb.h (by repeat (first | assumption | exact Hb.newY _ _ | refine Hb.alloc ?_ | refine Hb.drew ?_ | refine Hb.ext (by assumption) ?_ | exact Hb.setSameL (by first | omega | (simp only [size_alloc, size_setB, size_drew]; omega)) | exact Hb.setSame (by assumption) | refine Hb.set (by first | omega | (simp only [size_alloc, size_setB, size_drew]; omega)) ?_ ))) rfl (by simp only [size_ic, Value.cells]; omega) (by first | rfl | (simp only [size_ic]; omega)) oneCell_ic (fun _ => ⟨Hb.set (by omega) hSt0, Hb.set (by omega) hSt5⟩) ?_ | refine WH_storeW Hvad.sizeOf281 rfl (v := .agg _) rfl (Hb.h (Hb.set (by omega) hSt5)) rfl rfl rfl oneCell_ic (fun h => by cases h) ?_
        refine WH_nil ?_
        refine thn_normal ?_
        refine W_ret ?_
        refine thn_ret ?_
        refine bodyQ_cell2 Hvad.results238 rfl rfl Hvad.isAgg224 Hvad.sizeOf224 Hvad.isAgg281 Hvad.sizeOf281 rfl (Hb.h (by repeat (first | assumption | exact Hb.newY _ _ | refine Hb.alloc ?_ | refine Hb.drew ?_ | refine Hb.ext (by assumption) ?_ | exact Hb.setSameL (by first | omega | (simp only [size_alloc, size_setB, size_drew]; omega)) | exact Hb.setSame (by assumption) | refine Hb.set (by first | omega | (simp only [size_alloc, size_setB, size_drew]; omega)) ?_ ))) (by first | omega | assumption | rfl | decide | exact Nat.le_refl _ | (simp only [size_ic, Value.cells]; omega) | simp) rfl (Hb.h (by repeat (first | assumption | exact Hb.newY _ _ | refine Hb.alloc ?_ | refine Hb.drew ?_ | refine Hb.ext (by assumption) ?_ | exact Hb.setSameL (by first | omega | (simp only [size_alloc, size_setB, size_drew]; omega)) | exact Hb.setSame (by assumption) | refine Hb.set (by first | omega | (simp only [size_alloc, size_setB, size_drew]; omega)) ?_ ))) (by first | omega | assumption | rfl | decide | exact Nat.le_refl _ | (simp only [size_ic, Value.cells]; omega) | simp) ?_
        exact ⟨Ext.setB (Ext.setB (Ext.drew hEw5) (by omega) _) (by omega) _, _, _, rfl, hx8, fun z hz => hXL z (List.mem_of_mem_take hz), rfl⟩
      · have hb28p := hb28.h; try simp only [al_ete, al_dfn, Bool.not_eq_true', Bool.not_eq_false', al_ne, Bool.not_not, al_nn] at hb28p
        refine W_skip ?_
        refine thn_normal ?_
        refine W_seq ?_
        refine W_region rfl ?_
        refine WO_p (PS_move_int rfl) ?_
        refine WO_p (PS_move_int rfl) ?_
        refine WO_p (PS_sub_u8n rfl rfl (by omega) (by omega)) ?_
        refine WO_p (PS_add_u8n rfl rfl (by omega) (by omega)) ?_
        refine WO_p (PS_fieldAddr 0 Hvad.runUnderlying281 rfl Hvad.sizeOf5 rfl rfl) ?_
        refine WO_storeBx (b := b5) (T := 281) (L := [0, 0, 0]) Hvad.sizeOf5 rfl rfl (Hb.mk (Hb.h (by repeat (first | assumption | exact Hb.newY _ _ | refine Hb.alloc ?_ | refine Hb.drew ?_ | refine Hb.ext (by assumption) ?_ | exact Hb.setSameL (by first | omega | (simp only [size_alloc, size_setB, size_drew]; omega)) | exact Hb.setSame (by assumption) | refine Hb.set (by first | omega | (simp only [size_alloc, size_setB, size_drew]; omega)) ?_ )))) (by decide) (by omega) ?_
        intro w9 hT9
        obtain ⟨p9, hpe⟩ : ∃ p9, ([0, 0, 0] : List Int).set (0 + 0) ((q : Int) - n + 1) = p9 := ⟨_, rfl⟩
        rw [hpe] at hT9
        have hce0 : Ce (ic .u8 p9) (0 + 0) (.int .u8 ((q : Int) - n + 1)) := by rw [← hpe]; exact ⟨rfl⟩
        have hz9 := hT9.keep.sz
        have hBy9 : By8 p9 := hT9.ty (by_zero 3)
        have hp9 : p9.length = 3 := hT9.len
        have hE9 : Ext w w9 := hT9.ext1 (by repeat (first | assumption | exact Ext.refl _ | refine Ext.alloc ?_ _ | refine Ext.drew ?_ | refine Ext.setB ?_ (by first | omega | (simp only [size_alloc, size_setB, size_drew]; omega)) _ | exact Ext.trans (by assumption) (by assumption) | refine Ext.trans ?_ (by assumption))) (by omega)
        have hb49 := hT9.other (Hb.mk (Hb.h (by repeat (first | assumption | exact Hb.newY _ _ | refine Hb.alloc ?_ | refine Hb.drew ?_ | refine Hb.ext (by assumption) ?_ | exact Hb.setSameL (by first | omega | (simp only [size_alloc, size_setB, size_drew]; omega)) | exact Hb.setSame (by assumption) | refine Hb.set (by first | omega | (simp only [size_alloc, size_setB, size_drew]; omega)) ?_ ))) : Hb _ b4 (.cells (ic .u64 (List.replicate 8 0)) 224 (0, 0))) (by omega)
        have hX9 := hT9.other hX5 (by omega)
        have hM9 := hT9.other hM5 (by omega)
        have hb59 := hT9.hb
        refine WO_nil ?_
        refine thn_normal ?_
        refine W_seq ?_
        refine W_seq ?_
        refine W_region rfl ?_
        refine WO_p (PS_move_int rfl) ?_
        refine WO_p (PS_eql rfl rfl) ?_
        refine WO_nil ?_
        refine thn_normal ?_
        refine W_if rfl (fun hb30 => ?_) (fun hb30 => ?_)
        · have hb30p := hb30.h; try simp only [al_ete, al_dfn, Bool.not_eq_true', Bool.not_eq_false', al_ne, Bool.not_not, al_nn] at hb30p
          refine W_seq ?_
          refine W_region rfl ?_
          refine WO_p (PS_assign_int rfl) ?_
          refine WO_nil ?_
          refine thn_normal ?_
          refine W_seq ?_
          refine W_seq ?_
          refine W_region rfl ?_
          refine WO_p (PS_move_int rfl) ?_
          refine WO_p (PS_assign_int rfl) ?_
          refine WO_nil ?_
          refine thn_normal ?_
          refine W_block ?_
          refine W_loopN (fun m ρ w' => ∃ (i : Nat) (r8 : Int), i = m ∧ i ≤ 16 ∧ (0 ≤ r8 ∧ r8 ≤ 18446744073709551615) ∧ Fr [(0, .pointer (some ⟨bx, 0, none⟩)), (1, .pointer (some ⟨bm, 0, none⟩)), (4, .pointer (some ⟨b4, 0, none⟩)), (5, .pointer (some ⟨b5, 0, none⟩)), (8, .int .u64 r8), (9, .int .u8 i)] ρ ∧ Ext w9 w') q ?_ ?_
          · exact ⟨q, 0, rfl, by omega, by decide, ⟨rfl, rfl, rfl, rfl, rfl, rfl, trivial⟩, Ext.refl _⟩
          intro m3 ρ3 w13 hI
          obtain ⟨i, r8, him, hi16, hr8, hF13, hE13⟩ := hI
          refine W_env _ hF13 ?_
          have hz13 := hE13.1
          have hx13 := hXL.get (i - 1)
          have hy13 := hYL.get 0
          refine W_seq ?_
          refine W_seq ?_
          refine W_region rfl ?_
          refine WO_p (PS_move_int rfl) ?_
          refine WO_p (PS_gtr rfl rfl) ?_
          refine WO_nil ?_
          refine thn_normal ?_
          refine W_if rfl (fun hb32 => ?_) (fun hb32 => ?_)
          · have hb32p := hb32.h; try simp only [al_ete, al_dfn, Bool.not_eq_true', Bool.not_eq_false', al_ne, Bool.not_not, al_nn] at hb32p
            have hceXi : Ce (ic .u64 X) (0 + ((i:Int) - 1).toNat * 1) (.int .u64 (X.getD (i - 1) 0)) := by rw [show ((i:Int) - 1).toNat = i - 1 by omega]; exact ce_ic (by omega)
            refine W_skip ?_
            refine thn_normal ?_
            refine W_seq ?_
            refine W_block ?_
            refine W_seq ?_
            refine W_drawE [false, false, false, false, false, false, false, false, false, false, false, false, false, false, false, false, false, false, false] hmix (by kernel_rfl) rfl ?_
            refine WH_p (PS_move_int rfl) rfl ?_
            refine WH_p (PS_move_ptr rfl) rfl ?_
            refine WH_p (PS_move_int rfl) rfl ?_
            refine WH_p (PS_sub_u8n rfl rfl (by omega) (by omega)) rfl ?_
            refine WH_p (PS_nilCheck rfl) rfl ?_
            refine WH_p (PS_indexA Hvad.runUnderlying279 Hvad.sizeOf26 rfl rfl (by omega) (by omega)) rfl ?_
            refine WH_load (.int _ _) Hvad.isAgg26 rfl (Hb.h (by repeat (first | assumption | exact Hb.newY _ _ | refine Hb.alloc ?_ | refine Hb.drew ?_ | refine Hb.ext (by assumption) ?_ | exact Hb.setSameL (by first | omega | (simp only [size_alloc, size_setB, size_drew]; omega)) | exact Hb.setSame (by assumption) | refine Hb.set (by first | omega | (simp only [size_alloc, size_setB, size_drew]; omega)) ?_ ))) (Ce.h (by first | assumption | exact ⟨rfl⟩)) ?_
            refine WH_p (PS_move_ptr rfl) rfl ?_
            refine WH_p (PS_nilCheck rfl) rfl ?_
            refine WH_p (PS_indexA Hvad.runUnderlying224 Hvad.sizeOf26 rfl rfl (by omega) (by omega)) rfl ?_
            refine WH_load (.int _ _) Hvad.isAgg26 rfl (Hb.h (by repeat (first | assumption | exact Hb.newY _ _ | refine Hb.alloc ?_ | refine Hb.drew ?_ | refine Hb.ext (by assumption) ?_ | exact Hb.setSameL (by first | omega | (simp only [size_alloc, size_setB, size_drew]; omega)) | exact Hb.setSame (by assumption) | refine Hb.set (by first | omega | (simp only [size_alloc, size_setB, size_drew]; omega)) ?_ ))) (Ce.h (by first | assumption | exact ⟨rfl⟩)) ?_
            refine WH_call Hvad.call249 (by rfl) (Ret.mono (div64_spec _ _ _ _ hr8 hx13 hy13) ?_)
            rintro _ w15 ⟨hE15, q15, r15, ok15, rfl, hq15, hr15⟩
            refine ⟨(fun h => by cases h), ?_⟩
            have hz15 := hE15.1
            try simp only [size_drew] at hz15
            refine WH_p (PS_move_tuple rfl) rfl ?_
            refine WH_p (PS_extract_int rfl rfl) rfl ?_
            refine WH_p (PS_extract_int rfl rfl) rfl ?_
            refine WH_p (PS_extract_bool rfl rfl) rfl ?_
            refine WH_p (PS_assign_int rfl) rfl ?_
            refine WH_p (PS_assign_int rfl) rfl ?_
            refine WH_p (PS_assign_bool rfl) rfl ?_
            refine WH_nil ?_
            refine thn_normal ?_
            refine W_region rfl ?_
            refine WO_p (PS_move_int rfl) ?_
            refine WO_p (PS_assign_int rfl) ?_
            refine WO_nil ?_
            refine inBlk_normal ?_
            refine thn_normal ?_
            refine W_region rfl ?_
            refine WO_p (PS_move_int rfl) ?_
            refine WO_p (PS_sub_u8n rfl rfl (by omega) (by omega)) ?_
            refine WO_p (PS_assign_int rfl) ?_
            refine WO_nil ?_
            refine thn_normal ?_
            exact ⟨m3 - 1, by omega, i - 1, r15, by omega, by omega, hr15, ⟨rfl, rfl, rfl, rfl, rfl, congrArg (Value.int .u8) (by omega), trivial⟩, (by repeat (first | assumption | exact Ext.refl _ | refine Ext.alloc ?_ _ | refine Ext.drew ?_ | refine Ext.setB ?_ (by first | omega | (simp only [size_alloc, size_setB, size_drew]; omega)) _ | exact Ext.trans (by assumption) (by assumption) | refine Ext.trans ?_ (by assumption)))⟩
          · have hb32p := hb32.h; try simp only [al_ete, al_dfn, Bool.not_eq_true', Bool.not_eq_false', al_ne, Bool.not_not, al_nn] at hb32p
            refine W_exit ?_
            refine thn_exit ?_
            refine thn_exit ?_
            refine inBlk_exit ?_
            refine thn_normal ?_
            refine W_seq ?_
            refine W_region rfl ?_
            refine WO_p (PS_move_int rfl) ?_
            refine WO_p (PS_indexA Hvad.runUnderlying224 Hvad.sizeOf26 rfl rfl (by omega) (by omega)) ?_
            refine WO_storeU (b := b4) (T := 224) (L := List.replicate 8 0) Hvad.sizeOf26 rfl rfl (Hb.mk (Hb.h (by repeat (first | assumption | exact Hb.newY _ _ | refine Hb.alloc ?_ | refine Hb.drew ?_ | refine Hb.ext (by assumption) ?_ | exact Hb.setSameL (by first | omega | (simp only [size_alloc, size_setB, size_drew]; omega)) | exact Hb.setSame (by assumption) | refine Hb.set (by first | omega | (simp only [size_alloc, size_setB, size_drew]; omega)) ?_ )))) (by simp) hr8 ?_
            intro w17 R17 hU17
            have hz17 := hU17.keep.sz
            have hUL17 : UL R17 := hU17.ty (ULr 8)
            have hR17l : R17.length = 8 := by rw [hU17.len]; exact hr8l
            have hE17 : Ext w w17 := hU17.ext1 (by repeat (first | assumption | exact Ext.refl _ | refine Ext.alloc ?_ _ | refine Ext.drew ?_ | refine Ext.setB ?_ (by first | omega | (simp only [size_alloc, size_setB, size_drew]; omega)) _ | exact Ext.trans (by assumption) (by assumption) | refine Ext.trans ?_ (by assumption))) (by omega)
            have hb517 := hU17.other (Hb.mk (Hb.h (by repeat (first | assumption | exact Hb.newY _ _ | refine Hb.alloc ?_ | refine Hb.drew ?_ | refine Hb.ext (by assumption) ?_ | exact Hb.setSameL (by first | omega | (simp only [size_alloc, size_setB, size_drew]; omega)) | exact Hb.setSame (by assumption) | refine Hb.set (by first | omega | (simp only [size_alloc, size_setB, size_drew]; omega)) ?_ ))) : Hb _ b5 (.cells (ic .u8 p9) 281 (0, 0))) (by omega)
            have hb417 := hU17.hb
            refine WO_nil ?_
            refine thn_normal ?_
            refine W_seq ?_
            refine W_drawT2 [false, false, true, false] (RetW b4 b5 R17 p9) hmix (by kernel_rfl) rfl ⟨Hb.mk (Hb.h (by repeat (first | assumption | exact Hb.newY _ _ | refine Hb.alloc ?_ | refine Hb.drew ?_ | refine Hb.ext (by assumption) ?_ | exact Hb.setSameL (by first | omega | (simp only [size_alloc, size_setB, size_drew]; omega)) | exact Hb.setSame (by assumption) | refine Hb.set (by first | omega | (simp only [size_alloc, size_setB, size_drew]; omega)) ?_ ))), Hb.mk (Hb.h (by repeat (first | assumption | exact Hb.newY _ _ | refine Hb.alloc ?_ | refine Hb.drew ?_ | refine Hb.ext (by assumption) ?_ | exact Hb.setSameL (by first | omega | (simp only [size_alloc, size_setB, size_drew]; omega)) | exact Hb.setSame (by assumption) | refine Hb.set (by first | omega | (simp only [size_alloc, size_setB, size_drew]; omega)) ?_ )))⟩ ?_
            intro hSt
            have hSt4 := hSt.h4
            have hSt5 := hSt.h5
            have hSt5l := hSt5.lt
            have hSt4l := hSt4.lt
            try simp only [size_drew] at hSt5l hSt4l
            have hRs : (Value.agg (ic .u64 R17)).cells.size = 8 := by simp only [Value.cells, size_ic]; first | rfl | omega
            have hps : (Value.agg (ic .u8 p9)).cells.size = 3 := by simp only [Value.cells, size_ic]; first | rfl | omega
            refine WH_loadA0 (ic .u64 R17) Hvad.isAgg224 Hvad.sizeOf224 rfl (fun w' hS => row_at hS.h4 (by first | rfl | omega)) ?_
            refine WH_loadA0 (ic .u8 p9) Hvad.isAgg281 Hvad.sizeOf281 rfl (fun w' hS => row_at hS.h5 (by first | rfl | omega)) ?_
            first | refine WH_storeW Hvad.sizeOf224 rfl (v := .agg _) rfl hSt4.h rfl hRs hRs oneCell_ic (fun _ => ⟨Hb.setSame hSt4, Hb.set (by omega) hSt5⟩) ?_ | refine WH_storeW Hvad.sizeOf281 rfl (v := .agg _) rfl (Hb.h (Hb.set (by omega) hSt5)) rfl hps hps oneCell_ic (fun h => by cases h) ?_
            first | refine WH_storeW Hvad.sizeOf224 rfl (v := .agg _) rfl hSt4.h rfl hRs hRs oneCell_ic (fun _ => ⟨Hb.setSame hSt4, Hb.set (by omega) hSt5⟩) ?_ | refine WH_storeW Hvad.sizeOf281 rfl (v := .agg _) rfl (Hb.h (Hb.set (by omega) hSt5)) rfl hps hps oneCell_ic (fun h => by cases h) ?_
            refine WH_nil ?_
            refine thn_normal ?_
            refine W_ret ?_
            refine thn_ret ?_
            refine bodyQ_cell2 Hvad.results238 rfl rfl Hvad.isAgg224 Hvad.sizeOf224 Hvad.isAgg281 Hvad.sizeOf281 rfl (Hb.h (by repeat (first | assumption | exact Hb.newY _ _ | refine Hb.alloc ?_ | refine Hb.drew ?_ | refine Hb.ext (by assumption) ?_ | exact Hb.setSameL (by first | omega | (simp only [size_alloc, size_setB, size_drew]; omega)) | exact Hb.setSame (by assumption) | refine Hb.set (by first | omega | (simp only [size_alloc, size_setB, size_drew]; omega)) ?_ ))) (by first | omega | assumption | rfl | decide | exact Nat.le_refl _ | (simp only [size_ic, Value.cells]; omega) | simp) rfl (Hb.h (by repeat (first | assumption | exact Hb.newY _ _ | refine Hb.alloc ?_ | refine Hb.drew ?_ | refine Hb.ext (by assumption) ?_ | exact Hb.setSameL (by first | omega | (simp only [size_alloc, size_setB, size_drew]; omega)) | exact Hb.setSame (by assumption) | refine Hb.set (by first | omega | (simp only [size_alloc, size_setB, size_drew]; omega)) ?_ ))) (by first | omega | assumption | rfl | decide | exact Nat.le_refl _ | (simp only [size_ic, Value.cells]; omega) | simp) ?_
            exact ⟨Ext.setB (Ext.setB (Ext.drew hE17) (by omega) _) (by omega) _, _, _, rfl, hR17l, hUL17, hp9⟩
        · have hb30p := hb30.h; try simp only [al_ete, al_dfn, Bool.not_eq_true', Bool.not_eq_false', al_ne, Bool.not_not, al_nn] at hb30p
          refine W_skip ?_
          refine thn_normal ?_
          refine W_seq ?_
          refine W_region rfl ?_
          refine WO_allocG Hvad.zeroValue313 ?_
          intro b13 v13 hg13 hE13 hH13 hl13
          try simp only [size_alloc, size_setB, size_drew] at hg13
          have hzz13 := hE13.1
          try simp only [size_alloc, size_setB, size_drew] at hzz13
          replace hH13 : Hb v13 b13 (.cells (ic .u64 (List.replicate 17 0)) 313 (0, 0)) := hH13
          refine WO_nil ?_
          refine thn_normal ?_
          refine W_seq ?_
          refine W_drawE [false, false, false, false, false] hmix (by kernel_rfl) rfl ?_
          refine WH_p (PS_slA Hvad.runUnderlying313 Hvad.sizeOf26 rfl (by omega)) rfl ?_
          refine WH_p (PS_move_ptr rfl) rfl ?_
          refine WH_p (PS_nilCheck rfl) rfl ?_
          refine WH_p (PS_slA Hvad.runUnderlying279 Hvad.sizeOf26 rfl (by omega)) rfl ?_
          refine WH_copyU (b := b13) (T := 313) (L := List.replicate 17 0) (b2 := bx) (L2 := X) Hvad.runUnderlying194 Hvad.sizeOf26 rfl rfl (Hb.mk (Hb.h (by repeat (first | assumption | exact Hb.newY _ _ | refine Hb.alloc ?_ | refine Hb.drew ?_ | refine Hb.ext (by assumption) ?_ | exact Hb.setSameL (by first | omega | (simp only [size_alloc, size_setB, size_drew]; omega)) | exact Hb.setSame (by assumption) | refine Hb.set (by first | omega | (simp only [size_alloc, size_setB, size_drew]; omega)) ?_ )))) (Hb.mk (Hb.h (by repeat (first | assumption | exact Hb.newY _ _ | refine Hb.alloc ?_ | refine Hb.drew ?_ | refine Hb.ext (by assumption) ?_ | exact Hb.setSameL (by first | omega | (simp only [size_alloc, size_setB, size_drew]; omega)) | exact Hb.setSame (by assumption) | refine Hb.set (by first | omega | (simp only [size_alloc, size_setB, size_drew]; omega)) ?_ )))) (by omega) (by omega) hxl hXL ?_
          intro w20 U20 hU20
          have hz20 := hU20.keep.sz
          try simp only [size_alloc, size_setB, size_drew] at hz20
          have hUL20 := hU20.ty (ULr 17)
          have hu20 := hU20.len
          have hE20 : Ext w w20 := hU20.ext1 (by repeat (first | assumption | exact Ext.refl _ | refine Ext.alloc ?_ _ | refine Ext.drew ?_ | refine Ext.setB ?_ (by first | omega | (simp only [size_alloc, size_setB, size_drew]; omega)) _ | exact Ext.trans (by assumption) (by assumption) | refine Ext.trans ?_ (by assumption))) (by omega)
          have hb420 := hU20.other (Hb.mk (Hb.h (by repeat (first | assumption | exact Hb.newY _ _ | refine Hb.alloc ?_ | refine Hb.drew ?_ | refine Hb.ext (by assumption) ?_ | exact Hb.setSameL (by first | omega | (simp only [size_alloc, size_setB, size_drew]; omega)) | exact Hb.setSame (by assumption) | refine Hb.set (by first | omega | (simp only [size_alloc, size_setB, size_drew]; omega)) ?_ ))) : Hb _ b4 (.cells (ic .u64 (List.replicate 8 0)) 224 (0, 0))) (by omega)
          have hb520 := hU20.other (Hb.mk (Hb.h (by repeat (first | assumption | exact Hb.newY _ _ | refine Hb.alloc ?_ | refine Hb.drew ?_ | refine Hb.ext (by assumption) ?_ | exact Hb.setSameL (by first | omega | (simp only [size_alloc, size_setB, size_drew]; omega)) | exact Hb.setSame (by assumption) | refine Hb.set (by first | omega | (simp only [size_alloc, size_setB, size_drew]; omega)) ?_ ))) : Hb _ b5 (.cells (ic .u8 p9) 281 (0, 0))) (by omega)
          have hM20 := hU20.other (Hb.mk (Hb.h (by repeat (first | assumption | exact Hb.newY _ _ | refine Hb.alloc ?_ | refine Hb.drew ?_ | refine Hb.ext (by assumption) ?_ | exact Hb.setSameL (by first | omega | (simp only [size_alloc, size_setB, size_drew]; omega)) | exact Hb.setSame (by assumption) | refine Hb.set (by first | omega | (simp only [size_alloc, size_setB, size_drew]; omega)) ?_ ))) : Hb _ bm (.cells (ic .u64 Y) Tm (0, 0))) (by omega)
          have hb1320 := hU20.hb
          refine ⟨(fun h => by cases h), ?_⟩
          refine WH_nil ?_
          refine thn_normal ?_
          refine W_seq ?_
          refine W_region rfl ?_
          refine WO_p (PS_move_ptr rfl) ?_
          refine WO_p (PS_nilCheck rfl) ?_
          refine WO_loadA _ Hvad.isAgg224 Hvad.sizeOf224 rfl (Hb.h (by repeat (first | assumption | exact Hb.newY _ _ | refine Hb.alloc ?_ | refine Hb.drew ?_ | refine Hb.ext (by assumption) ?_ | exact Hb.setSameL (by first | omega | (simp only [size_alloc, size_setB, size_drew]; omega)) | exact Hb.setSame (by assumption) | refine Hb.set (by first | omega | (simp only [size_alloc, size_setB, size_drew]; omega)) ?_ ))) (by first | omega | assumption | rfl | decide | exact Nat.le_refl _ | (simp only [size_ic, Value.cells]; omega) | simp) (Xt.h (by first | assumption | exact Xt.whole rfl rfl | exact Xt.whole rfl (by simp only [size_ic, Value.cells]; omega) | exact ⟨rfl⟩)) ?_
          refine WO_allocG Hvad.zeroValue224 ?_
          intro b14 v14 hg14 hE14 hH14 hl14
          try simp only [size_alloc, size_setB, size_drew] at hg14
          have hzz14 := hE14.1
          try simp only [size_alloc, size_setB, size_drew] at hzz14
          replace hH14 : Hb v14 b14 (.cells (ic .u64 (List.replicate 8 0)) 224 (0, 0)) := hH14
          refine WO_storeW Hvad.sizeOf224 rfl (v := .agg _) rfl (Hb.h (by repeat (first | assumption | exact Hb.newY _ _ | refine Hb.alloc ?_ | refine Hb.drew ?_ | refine Hb.ext (by assumption) ?_ | exact Hb.setSameL (by first | omega | (simp only [size_alloc, size_setB, size_drew]; omega)) | exact Hb.setSame (by assumption) | refine Hb.set (by first | omega | (simp only [size_alloc, size_setB, size_drew]; omega)) ?_ ))) rfl (by simp only [size_ic, Value.cells]; omega) (by first | rfl | (simp only [size_ic]; omega)) oneCell_ic ?_
          change WO _ _ _ _ _ (setB _ _ (.cells (ic .u64 Y) 224 (0, 0)))
          refine WO_nil ?_
          refine thn_normal ?_
          refine W_seq ?_
          have hceYn : Ce (ic .u64 Y) (0 + ((n:Int) - 1).toNat * 1) (.int .u64 (Y.getD (n - 1) 0)) := by rw [show ((n:Int) - 1).toNat = n - 1 by omega]; exact ce_ic (by omega)
          refine W_region rfl ?_
          refine WO_p (PS_move_int rfl) ?_
          refine WO_p (PS_sub_u8n rfl rfl (by omega) (by omega)) ?_
          refine WO_p (PS_indexA Hvad.runUnderlying224 Hvad.sizeOf26 rfl rfl (by omega) (by omega)) ?_
          refine WO_load (.int _ _) Hvad.isAgg26 rfl (Hb.h (by repeat (first | assumption | exact Hb.newY _ _ | refine Hb.alloc ?_ | refine Hb.drew ?_ | refine Hb.ext (by assumption) ?_ | exact Hb.setSameL (by first | omega | (simp only [size_alloc, size_setB, size_drew]; omega)) | exact Hb.setSame (by assumption) | refine Hb.set (by first | omega | (simp only [size_alloc, size_setB, size_drew]; omega)) ?_ ))) (Ce.h (by first | assumption | exact ⟨rfl⟩)) ?_
          refine WO_call Hvad.call275 (by rfl) (Ret.mono (lz64_spec _ _ (hYL.get (n - 1))) ?_)
          rintro _ w22 ⟨hw22, ln, rfl, hln, hLn⟩
          rw [hw22]
          clear hw22
          refine WO_p (PS_conv_u8n Hvad.runUnderlying3 Hvad.runUnderlying5 rfl (by omega) (by omega)) ?_
          refine WO_p (PS_assign_int rfl) ?_
          refine WO_nil ?_
          refine thn_normal ?_
          refine W_seq ?_
          refine W_region rfl ?_
          refine WO_p (PS_slA Hvad.runUnderlying313 Hvad.sizeOf26 rfl (by omega)) ?_
          refine WO_p (PS_move_int rfl) ?_
          refine WO_call Hvad.call276 (by rfl) (Ret.mono (shiftUp_spec b13 0 17 _ 313 U20 _ _ (Hb.mk (Hb.h (by repeat (first | assumption | exact Hb.newY _ _ | refine Hb.alloc ?_ | refine Hb.drew ?_ | refine Hb.ext (by assumption) ?_ | exact Hb.setSameL (by first | omega | (simp only [size_alloc, size_setB, size_drew]; omega)) | exact Hb.setSame (by assumption) | refine Hb.set (by first | omega | (simp only [size_alloc, size_setB, size_drew]; omega)) ?_ )))) hUL20 (by omega) (by omega) (by omega)) ?_)
          rintro _ w23 ⟨rfl, hT23⟩
          obtain ⟨U23, hU23, hUL23⟩ := hT23.ut
          have hz23 := hU23.keep.sz
          try simp only [size_alloc, size_setB, size_drew] at hz23
          have hE23 : Ext w w23 := hU23.ext1 (by repeat (first | assumption | exact Ext.refl _ | refine Ext.alloc ?_ _ | refine Ext.drew ?_ | refine Ext.setB ?_ (by first | omega | (simp only [size_alloc, size_setB, size_drew]; omega)) _ | exact Ext.trans (by assumption) (by assumption) | refine Ext.trans ?_ (by assumption))) (by omega)
          have hb423 := hU23.other (Hb.mk (Hb.h (by repeat (first | assumption | exact Hb.newY _ _ | refine Hb.alloc ?_ | refine Hb.drew ?_ | refine Hb.ext (by assumption) ?_ | exact Hb.setSameL (by first | omega | (simp only [size_alloc, size_setB, size_drew]; omega)) | exact Hb.setSame (by assumption) | refine Hb.set (by first | omega | (simp only [size_alloc, size_setB, size_drew]; omega)) ?_ ))) : Hb _ b4 (.cells (ic .u64 (List.replicate 8 0)) 224 (0, 0))) (by omega)
          have hb523 := hU23.other (Hb.mk (Hb.h (by repeat (first | assumption | exact Hb.newY _ _ | refine Hb.alloc ?_ | refine Hb.drew ?_ | refine Hb.ext (by assumption) ?_ | exact Hb.setSameL (by first | omega | (simp only [size_alloc, size_setB, size_drew]; omega)) | exact Hb.setSame (by assumption) | refine Hb.set (by first | omega | (simp only [size_alloc, size_setB, size_drew]; omega)) ?_ ))) : Hb _ b5 (.cells (ic .u8 p9) 281 (0, 0))) (by omega)
          have hb1423 := hU23.other (Hb.mk (Hb.h (by repeat (first | assumption | exact Hb.newY _ _ | refine Hb.alloc ?_ | refine Hb.drew ?_ | refine Hb.ext (by assumption) ?_ | exact Hb.setSameL (by first | omega | (simp only [size_alloc, size_setB, size_drew]; omega)) | exact Hb.setSame (by assumption) | refine Hb.set (by first | omega | (simp only [size_alloc, size_setB, size_drew]; omega)) ?_ ))) : Hb _ b14 (.cells (ic .u64 Y) 224 (0, 0))) (by omega)
          have hb1323 := hU23.hb
          refine WO_nil ?_
          refine thn_normal ?_
          refine W_seq ?_
          refine W_region rfl ?_
          refine WO_p (PS_slA Hvad.runUnderlying224 Hvad.sizeOf26 rfl (by omega)) ?_
          refine WO_p (PS_move_int rfl) ?_
          refine WO_call Hvad.call276 (by rfl) (Ret.mono (shiftUp_spec b14 0 8 _ 224 Y _ _ (Hb.mk (Hb.h (by repeat (first | assumption | exact Hb.newY _ _ | refine Hb.alloc ?_ | refine Hb.drew ?_ | refine Hb.ext (by assumption) ?_ | exact Hb.setSameL (by first | omega | (simp only [size_alloc, size_setB, size_drew]; omega)) | exact Hb.setSame (by assumption) | refine Hb.set (by first | omega | (simp only [size_alloc, size_setB, size_drew]; omega)) ?_ )))) hYL (by omega) (by omega) (by omega)) ?_)
          rintro _ w24 ⟨rfl, hT24⟩
          obtain ⟨Y24, hU24, hUL24⟩ := hT24.ut
          have hz24 := hU24.keep.sz
          have hy24 := hU24.len
          have hb424 := hU24.other (Hb.mk (Hb.h (by repeat (first | assumption | exact Hb.newY _ _ | refine Hb.alloc ?_ | refine Hb.drew ?_ | refine Hb.ext (by assumption) ?_ | exact Hb.setSameL (by first | omega | (simp only [size_alloc, size_setB, size_drew]; omega)) | exact Hb.setSame (by assumption) | refine Hb.set (by first | omega | (simp only [size_alloc, size_setB, size_drew]; omega)) ?_ ))) : Hb _ b4 (.cells (ic .u64 (List.replicate 8 0)) 224 (0, 0))) (by omega)
          have hb524 := hU24.other (Hb.mk (Hb.h (by repeat (first | assumption | exact Hb.newY _ _ | refine Hb.alloc ?_ | refine Hb.drew ?_ | refine Hb.ext (by assumption) ?_ | exact Hb.setSameL (by first | omega | (simp only [size_alloc, size_setB, size_drew]; omega)) | exact Hb.setSame (by assumption) | refine Hb.set (by first | omega | (simp only [size_alloc, size_setB, size_drew]; omega)) ?_ ))) : Hb _ b5 (.cells (ic .u8 p9) 281 (0, 0))) (by omega)
          have hb1324 := hU24.other (Hb.mk (Hb.h (by repeat (first | assumption | exact Hb.newY _ _ | refine Hb.alloc ?_ | refine Hb.drew ?_ | refine Hb.ext (by assumption) ?_ | exact Hb.setSameL (by first | omega | (simp only [size_alloc, size_setB, size_drew]; omega)) | exact Hb.setSame (by assumption) | refine Hb.set (by first | omega | (simp only [size_alloc, size_setB, size_drew]; omega)) ?_ ))) : Hb _ b13 (.cells (ic .u64 U23) 313 (0, 0))) (by omega)
          have hb1424 := hU24.hb
          refine WO_nil ?_
          refine thn_normal ?_
          refine W_seq ?_
          refine W_seq ?_
          refine W_region rfl ?_
          refine WO_p (PS_fieldAddr 0 Hvad.runUnderlying281 rfl Hvad.sizeOf5 rfl rfl) ?_
          refine WO_load (.int _ _) Hvad.isAgg5 rfl (Hb.h (by repeat (first | assumption | exact Hb.newY _ _ | refine Hb.alloc ?_ | refine Hb.drew ?_ | refine Hb.ext (by assumption) ?_ | exact Hb.setSameL (by first | omega | (simp only [size_alloc, size_setB, size_drew]; omega)) | exact Hb.setSame (by assumption) | refine Hb.set (by first | omega | (simp only [size_alloc, size_setB, size_drew]; omega)) ?_ ))) (Ce.h (by first | assumption | exact ⟨rfl⟩)) ?_
          refine WO_p (PS_assign_int rfl) ?_
          refine WO_nil ?_
          refine thn_normal ?_
          refine W_block ?_
          refine W_loopN (fun m ρ w' => ∃ (j : Nat) (U5 p5 : List Int), j = m ∧ j ≤ 16 ∧ U5.length = 17 ∧ UL U5 ∧ p5.length = 3 ∧ By8 p5 ∧ Fr [(4, .pointer (some ⟨b4, 0, none⟩)), (5, .pointer (some ⟨b5, 0, none⟩)), (6, .int .u8 n), (13, .pointer (some ⟨b13, 0, none⟩)), (14, .pointer (some ⟨b14, 0, none⟩)), (15, .int .u8 (64 - (ln : Int))), (16, .int .u8 j)] ρ ∧ Ext w w' ∧ v14.heap.size ≤ w'.heap.size ∧ Hb w' b4 (.cells (ic .u64 (List.replicate 8 0)) 224 (0, 0)) ∧ Hb w' b5 (.cells (ic .u8 p5) 281 (0, 0)) ∧ Hb w' b13 (.cells (ic .u64 U5) 313 (0, 0)) ∧ Hb w' b14 (.cells (ic .u64 Y24) 224 (0, 0))) (q - n + 1) ?_ ?_
          · exact ⟨q - n + 1, U23, p9, rfl, by omega, by have := hU23.len; omega, hUL23, by omega, hBy9, ⟨rfl, rfl, rfl, rfl, rfl, rfl, congrArg (Value.int .u8) (by omega), trivial⟩, hU24.ext1 (by repeat (first | assumption | exact Ext.refl _ | refine Ext.alloc ?_ _ | refine Ext.drew ?_ | refine Ext.setB ?_ (by first | omega | (simp only [size_alloc, size_setB, size_drew]; omega)) _ | refine Ext.trans ?_ (by assumption))) (by omega), by omega, Hb.mk (Hb.h (by repeat (first | assumption | exact Hb.newY _ _ | refine Hb.alloc ?_ | refine Hb.drew ?_ | refine Hb.ext (by assumption) ?_ | exact Hb.setSameL (by first | omega | (simp only [size_alloc, size_setB, size_drew]; omega)) | exact Hb.setSame (by assumption) | refine Hb.set (by first | omega | (simp only [size_alloc, size_setB, size_drew]; omega)) ?_ ))), Hb.mk (Hb.h (by repeat (first | assumption | exact Hb.newY _ _ | refine Hb.alloc ?_ | refine Hb.drew ?_ | refine Hb.ext (by assumption) ?_ | exact Hb.setSameL (by first | omega | (simp only [size_alloc, size_setB, size_drew]; omega)) | exact Hb.setSame (by assumption) | refine Hb.set (by first | omega | (simp only [size_alloc, size_setB, size_drew]; omega)) ?_ ))), Hb.mk (Hb.h (by repeat (first | assumption | exact Hb.newY _ _ | refine Hb.alloc ?_ | refine Hb.drew ?_ | refine Hb.ext (by assumption) ?_ | exact Hb.setSameL (by first | omega | (simp only [size_alloc, size_setB, size_drew]; omega)) | exact Hb.setSame (by assumption) | refine Hb.set (by first | omega | (simp only [size_alloc, size_setB, size_drew]; omega)) ?_ ))), Hb.mk (Hb.h (by repeat (first | assumption | exact Hb.newY _ _ | refine Hb.alloc ?_ | refine Hb.drew ?_ | refine Hb.ext (by assumption) ?_ | exact Hb.setSameL (by first | omega | (simp only [size_alloc, size_setB, size_drew]; omega)) | exact Hb.setSame (by assumption) | refine Hb.set (by first | omega | (simp only [size_alloc, size_setB, size_drew]; omega)) ?_ )))⟩
          intro m5 ρ5 w5 hI
          obtain ⟨j, U5, p5, hjm, hj8, hu5, hU5, hp5, hP5, hF5, hE5', hz5v, hb45, hb55, hb135, hb145⟩ := hI
          refine W_env _ hF5 ?_
          have hz5 := hE5'.1
          have hp5b := by8_get hP5 1
          have hp5c := by8_get hP5 2
          have hce1 : Ce (ic .u8 p5) (0 + 1) (.int .u8 (p5.getD 1 0)) := by have h := ce_ic (k := .u8) (l := p5) (i := 1) (by omega); simpa using h
          refine W_seq ?_
          refine W_seq ?_
          refine W_region rfl ?_
          refine WO_p (PS_move_int rfl) ?_
          refine WO_p (PS_gtr rfl rfl) ?_
          refine WO_nil ?_
          refine thn_normal ?_
          refine W_if rfl (fun hb39 => ?_) (fun hb39 => ?_)
          · have hb39p := hb39.h; try simp only [al_ete, al_dfn, Bool.not_eq_true', Bool.not_eq_false', al_ne, Bool.not_not, al_nn] at hb39p
            refine W_skip ?_
            refine thn_normal ?_
            refine W_seq ?_
            refine W_block ?_
            refine W_seq ?_
            refine W_region rfl ?_
            refine WO_p (PS_move_int rfl) ?_
            refine WO_p (PS_move_int rfl) ?_
            refine WO_p (PS_sub_u8n rfl rfl (by omega) (by omega)) ?_
            rw [show (j : Int) - 1 = ((j - 1 : Nat) : Int) by omega]
            refine WO_call Hvad.call277 (by rfl) (Ret.mono (roundWide_spec b13 b14 n (j - 1) 313 224 U5 Y24 _ (Hb.mk (Hb.h (by repeat (first | assumption | exact Hb.newY _ _ | refine Hb.alloc ?_ | refine Hb.drew ?_ | refine Hb.ext (by assumption) ?_ | exact Hb.setSameL (by first | omega | (simp only [size_alloc, size_setB, size_drew]; omega)) | exact Hb.setSame (by assumption) | refine Hb.set (by first | omega | (simp only [size_alloc, size_setB, size_drew]; omega)) ?_ )))) (Hb.mk (Hb.h (by repeat (first | assumption | exact Hb.newY _ _ | refine Hb.alloc ?_ | refine Hb.drew ?_ | refine Hb.ext (by assumption) ?_ | exact Hb.setSameL (by first | omega | (simp only [size_alloc, size_setB, size_drew]; omega)) | exact Hb.setSame (by assumption) | refine Hb.set (by first | omega | (simp only [size_alloc, size_setB, size_drew]; omega)) ?_ )))) (by omega) hu5 hU5 (by omega) hUL24 (by omega) (by omega)) ?_)
            rintro _ w6 ⟨hT6, q6, f6, z6, rfl, hq6, hf6⟩
            obtain ⟨U6, hU6, hUL6⟩ := hT6.ut
            have hz6 := hU6.keep.sz
            have hE6 : Ext w w6 := hU6.ext1 (by repeat (first | assumption | exact Ext.refl _ | refine Ext.alloc ?_ _ | refine Ext.drew ?_ | refine Ext.setB ?_ (by first | omega | (simp only [size_alloc, size_setB, size_drew]; omega)) _ | exact Ext.trans (by assumption) (by assumption) | refine Ext.trans ?_ (by assumption))) (by omega)
            have hb46 := hU6.other (Hb.mk (Hb.h (by repeat (first | assumption | exact Hb.newY _ _ | refine Hb.alloc ?_ | refine Hb.drew ?_ | refine Hb.ext (by assumption) ?_ | exact Hb.setSameL (by first | omega | (simp only [size_alloc, size_setB, size_drew]; omega)) | exact Hb.setSame (by assumption) | refine Hb.set (by first | omega | (simp only [size_alloc, size_setB, size_drew]; omega)) ?_ ))) : Hb _ b4 (.cells (ic .u64 (List.replicate 8 0)) 224 (0, 0))) (by omega)
            have hb56 := hU6.other (Hb.mk (Hb.h (by repeat (first | assumption | exact Hb.newY _ _ | refine Hb.alloc ?_ | refine Hb.drew ?_ | refine Hb.ext (by assumption) ?_ | exact Hb.setSameL (by first | omega | (simp only [size_alloc, size_setB, size_drew]; omega)) | exact Hb.setSame (by assumption) | refine Hb.set (by first | omega | (simp only [size_alloc, size_setB, size_drew]; omega)) ?_ ))) : Hb _ b5 (.cells (ic .u8 p5) 281 (0, 0))) (by omega)
            have hb146 := hU6.other (Hb.mk (Hb.h (by repeat (first | assumption | exact Hb.newY _ _ | refine Hb.alloc ?_ | refine Hb.drew ?_ | refine Hb.ext (by assumption) ?_ | exact Hb.setSameL (by first | omega | (simp only [size_alloc, size_setB, size_drew]; omega)) | exact Hb.setSame (by assumption) | refine Hb.set (by first | omega | (simp only [size_alloc, size_setB, size_drew]; omega)) ?_ ))) : Hb _ b14 (.cells (ic .u64 Y24) 224 (0, 0))) (by omega)
            have hb136 := hU6.hb
            refine WO_p (PS_move_tuple rfl) ?_
            refine WO_p (PS_extract_int rfl rfl) ?_
            refine WO_p (PS_extract_int rfl rfl) ?_
            refine WO_p (PS_extract_bool rfl rfl) ?_
            refine WO_p (PS_assign_int rfl) ?_
            refine WO_p (PS_assign_int rfl) ?_
            refine WO_p (PS_assign_bool rfl) ?_
            refine WO_nil ?_
            refine thn_normal ?_
            refine W_seq ?_
            refine W_region rfl ?_
            refine WO_p (PS_fieldAddr 1 Hvad.runUnderlying281 rfl Hvad.sizeOf5 rfl rfl) ?_
            refine WO_load (.int _ _) Hvad.isAgg5 rfl (Hb.h (by repeat (first | assumption | exact Hb.newY _ _ | refine Hb.alloc ?_ | refine Hb.drew ?_ | refine Hb.ext (by assumption) ?_ | exact Hb.setSameL (by first | omega | (simp only [size_alloc, size_setB, size_drew]; omega)) | exact Hb.setSame (by assumption) | refine Hb.set (by first | omega | (simp only [size_alloc, size_setB, size_drew]; omega)) ?_ ))) (Ce.h (by first | assumption | exact ⟨rfl⟩)) ?_
            refine WO_p (PS_move_int rfl) ?_
            refine WO_p (PS_add_u8w rfl rfl) ?_
            refine WO_p (PS_fieldAddr 1 Hvad.runUnderlying281 rfl Hvad.sizeOf5 rfl rfl) ?_
            refine WO_storeB (b := b5) (T := 281) (L := p5) Hvad.sizeOf5 rfl rfl (Hb.mk (Hb.h (by repeat (first | assumption | exact Hb.newY _ _ | refine Hb.alloc ?_ | refine Hb.drew ?_ | refine Hb.ext (by assumption) ?_ | exact Hb.setSameL (by first | omega | (simp only [size_alloc, size_setB, size_drew]; omega)) | exact Hb.setSame (by assumption) | refine Hb.set (by first | omega | (simp only [size_alloc, size_setB, size_drew]; omega)) ?_ )))) (by omega) (by omega) ?_
            intro w8 p8 hT8
            have hz8 := hT8.keep.sz
            have hBy8 : By8 p8 := hT8.ty hP5
            have hp8 : p8.length = 3 := hT8.len.trans hp5
            have hp8c := by8_get hBy8 2
            have hE8 : Ext w w8 := hT8.ext1 (by repeat (first | assumption | exact Ext.refl _ | refine Ext.alloc ?_ _ | refine Ext.drew ?_ | refine Ext.setB ?_ (by first | omega | (simp only [size_alloc, size_setB, size_drew]; omega)) _ | exact Ext.trans (by assumption) (by assumption) | refine Ext.trans ?_ (by assumption))) (by omega)
            have hb48 := hT8.other (Hb.mk (Hb.h (by repeat (first | assumption | exact Hb.newY _ _ | refine Hb.alloc ?_ | refine Hb.drew ?_ | refine Hb.ext (by assumption) ?_ | exact Hb.setSameL (by first | omega | (simp only [size_alloc, size_setB, size_drew]; omega)) | exact Hb.setSame (by assumption) | refine Hb.set (by first | omega | (simp only [size_alloc, size_setB, size_drew]; omega)) ?_ ))) : Hb _ b4 (.cells (ic .u64 (List.replicate 8 0)) 224 (0, 0))) (by omega)
            have hb138 := hT8.other (Hb.mk (Hb.h (by repeat (first | assumption | exact Hb.newY _ _ | refine Hb.alloc ?_ | refine Hb.drew ?_ | refine Hb.ext (by assumption) ?_ | exact Hb.setSameL (by first | omega | (simp only [size_alloc, size_setB, size_drew]; omega)) | exact Hb.setSame (by assumption) | refine Hb.set (by first | omega | (simp only [size_alloc, size_setB, size_drew]; omega)) ?_ ))) : Hb _ b13 (.cells (ic .u64 U6) 313 (0, 0))) (by omega)
            have hb148 := hT8.other (Hb.mk (Hb.h (by repeat (first | assumption | exact Hb.newY _ _ | refine Hb.alloc ?_ | refine Hb.drew ?_ | refine Hb.ext (by assumption) ?_ | exact Hb.setSameL (by first | omega | (simp only [size_alloc, size_setB, size_drew]; omega)) | exact Hb.setSame (by assumption) | refine Hb.set (by first | omega | (simp only [size_alloc, size_setB, size_drew]; omega)) ?_ ))) : Hb _ b14 (.cells (ic .u64 Y24) 224 (0, 0))) (by omega)
            have hb58 := hT8.hb
            have hce2 : Ce (ic .u8 p8) (0 + 2) (.int .u8 (p8.getD 2 0)) := by have h := ce_ic (k := .u8) (l := p8) (i := 2) (by omega); simpa using h
            refine WO_nil ?_
            refine thn_normal ?_
            refine W_seq ?_
            refine W_region rfl ?_
            refine WO_p (PS_move_bool rfl) ?_
            refine WO_nil ?_
            refine thn_normal ?_
            refine W_if rfl (fun hb42 => ?_) (fun hb42 => ?_)
            · have hb42p := hb42.h; try simp only [al_ete, al_dfn, Bool.not_eq_true', Bool.not_eq_false', al_ne, Bool.not_not, al_nn] at hb42p
              refine W_region rfl ?_
              refine WO_p (PS_fieldAddr 2 Hvad.runUnderlying281 rfl Hvad.sizeOf5 rfl rfl) ?_
              refine WO_load (.int _ _) Hvad.isAgg5 rfl (Hb.h (by repeat (first | assumption | exact Hb.newY _ _ | refine Hb.alloc ?_ | refine Hb.drew ?_ | refine Hb.ext (by assumption) ?_ | exact Hb.setSameL (by first | omega | (simp only [size_alloc, size_setB, size_drew]; omega)) | exact Hb.setSame (by assumption) | refine Hb.set (by first | omega | (simp only [size_alloc, size_setB, size_drew]; omega)) ?_ ))) (Ce.h (by first | assumption | exact ⟨rfl⟩)) ?_
              refine WO_p (PS_add_u8w rfl rfl) ?_
              refine WO_p (PS_fieldAddr 2 Hvad.runUnderlying281 rfl Hvad.sizeOf5 rfl rfl) ?_
              refine WO_storeB (b := b5) (T := 281) (L := p8) Hvad.sizeOf5 rfl rfl (Hb.mk (Hb.h (by repeat (first | assumption | exact Hb.newY _ _ | refine Hb.alloc ?_ | refine Hb.drew ?_ | refine Hb.ext (by assumption) ?_ | exact Hb.setSameL (by first | omega | (simp only [size_alloc, size_setB, size_drew]; omega)) | exact Hb.setSame (by assumption) | refine Hb.set (by first | omega | (simp only [size_alloc, size_setB, size_drew]; omega)) ?_ )))) (by omega) (by omega) ?_
              intro w31 p31 hT31
              have hz31 := hT31.keep.sz
              have hBy31 : By8 p31 := hT31.ty hBy8
              have hp31 : p31.length = 3 := hT31.len.trans hp8
              have hE31 : Ext w w31 := hT31.ext1 (by repeat (first | assumption | exact Ext.refl _ | refine Ext.alloc ?_ _ | refine Ext.drew ?_ | refine Ext.setB ?_ (by first | omega | (simp only [size_alloc, size_setB, size_drew]; omega)) _ | exact Ext.trans (by assumption) (by assumption) | refine Ext.trans ?_ (by assumption))) (by omega)
              have hb431 := hT31.other (Hb.mk (Hb.h (by repeat (first | assumption | exact Hb.newY _ _ | refine Hb.alloc ?_ | refine Hb.drew ?_ | refine Hb.ext (by assumption) ?_ | exact Hb.setSameL (by first | omega | (simp only [size_alloc, size_setB, size_drew]; omega)) | exact Hb.setSame (by assumption) | refine Hb.set (by first | omega | (simp only [size_alloc, size_setB, size_drew]; omega)) ?_ ))) : Hb _ b4 (.cells (ic .u64 (List.replicate 8 0)) 224 (0, 0))) (by omega)
              have hb1331 := hT31.other (Hb.mk (Hb.h (by repeat (first | assumption | exact Hb.newY _ _ | refine Hb.alloc ?_ | refine Hb.drew ?_ | refine Hb.ext (by assumption) ?_ | exact Hb.setSameL (by first | omega | (simp only [size_alloc, size_setB, size_drew]; omega)) | exact Hb.setSame (by assumption) | refine Hb.set (by first | omega | (simp only [size_alloc, size_setB, size_drew]; omega)) ?_ ))) : Hb _ b13 (.cells (ic .u64 U6) 313 (0, 0))) (by omega)
              have hb1431 := hT31.other (Hb.mk (Hb.h (by repeat (first | assumption | exact Hb.newY _ _ | refine Hb.alloc ?_ | refine Hb.drew ?_ | refine Hb.ext (by assumption) ?_ | exact Hb.setSameL (by first | omega | (simp only [size_alloc, size_setB, size_drew]; omega)) | exact Hb.setSame (by assumption) | refine Hb.set (by first | omega | (simp only [size_alloc, size_setB, size_drew]; omega)) ?_ ))) : Hb _ b14 (.cells (ic .u64 Y24) 224 (0, 0))) (by omega)
              have hb531 := hT31.hb
              refine WO_nil ?_
              refine inBlk_normal ?_
              refine thn_normal ?_
              refine W_region rfl ?_
              refine WO_p (PS_move_int rfl) ?_
              refine WO_p (PS_sub_u8n rfl rfl (by omega) (by omega)) ?_
              refine WO_p (PS_assign_int rfl) ?_
              refine WO_nil ?_
              refine thn_normal ?_
              exact ⟨m5 - 1, by omega, j - 1, U6, p31, by omega, by omega, by have := hU6.len; omega, hUL6, hp31, hBy31, ⟨rfl, rfl, rfl, rfl, rfl, rfl, congrArg (Value.int .u8) (by omega), trivial⟩, hE31, by omega, hb431, hb531, hb1331, hb1431⟩
            · have hb42p := hb42.h; try simp only [al_ete, al_dfn, Bool.not_eq_true', Bool.not_eq_false', al_ne, Bool.not_not, al_nn] at hb42p
              refine W_skip ?_
              refine inBlk_normal ?_
              refine thn_normal ?_
              refine W_region rfl ?_
              refine WO_p (PS_move_int rfl) ?_
              refine WO_p (PS_sub_u8n rfl rfl (by omega) (by omega)) ?_
              refine WO_p (PS_assign_int rfl) ?_
              refine WO_nil ?_
              refine thn_normal ?_
              exact ⟨m5 - 1, by omega, j - 1, U6, p8, by omega, by omega, by have := hU6.len; omega, hUL6, hp8, hBy8, ⟨rfl, rfl, rfl, rfl, rfl, rfl, congrArg (Value.int .u8) (by omega), trivial⟩, hE8, by omega, hb48, hb58, hb138, hb148⟩
          · have hb39p := hb39.h; try simp only [al_ete, al_dfn, Bool.not_eq_true', Bool.not_eq_false', al_ne, Bool.not_not, al_nn] at hb39p
            refine W_exit ?_
            refine thn_exit ?_
            refine thn_exit ?_
            refine inBlk_exit ?_
            refine thn_normal ?_
            refine W_seq ?_
            have hu58 : (U5.take 8).length = 8 := by simp [hu5]
            have hu5x : Xt (ic .u64 U5) 0 (0 + 8) (ic .u64 (U5.take 8)) := by have h := Xt.ic .u64 U5 0 8 (by omega); rwa [List.drop_zero] at h
            have hW32 : UL (U5.take 8) := fun z hz => hU5 z (List.mem_of_mem_take hz)
            refine W_region rfl ?_
            refine WO_p (PS_slA_h Hvad.runUnderlying313 Hvad.sizeOf26 rfl rfl (by omega) (by omega) (by omega)) ?_
            refine WO_p (PS_arrayAt Hvad.runUnderlying224 rfl (by omega)) ?_
            refine WO_loadA _ Hvad.isAgg224 Hvad.sizeOf224 rfl (Hb.h (by repeat (first | assumption | exact Hb.newY _ _ | refine Hb.alloc ?_ | refine Hb.drew ?_ | refine Hb.ext (by assumption) ?_ | exact Hb.setSameL (by first | omega | (simp only [size_alloc, size_setB, size_drew]; omega)) | exact Hb.setSame (by assumption) | refine Hb.set (by first | omega | (simp only [size_alloc, size_setB, size_drew]; omega)) ?_ ))) (by first | omega | assumption | rfl | decide | exact Nat.le_refl _ | (simp only [size_ic, Value.cells]; omega) | simp) (Xt.h (by first | assumption | exact Xt.whole rfl rfl | exact Xt.whole rfl (by simp only [size_ic, Value.cells]; omega) | exact ⟨rfl⟩)) ?_
            refine WO_storeW Hvad.sizeOf224 rfl (v := .agg _) rfl (Hb.h (by repeat (first | assumption | exact Hb.newY _ _ | refine Hb.alloc ?_ | refine Hb.drew ?_ | refine Hb.ext (by assumption) ?_ | exact Hb.setSameL (by first | omega | (simp only [size_alloc, size_setB, size_drew]; omega)) | exact Hb.setSame (by assumption) | refine Hb.set (by first | omega | (simp only [size_alloc, size_setB, size_drew]; omega)) ?_ ))) rfl (by simp only [size_ic, Value.cells]; omega) (by first | rfl | (simp only [size_ic]; omega)) oneCell_ic ?_
            change WO _ _ _ _ _ (setB _ _ (.cells (ic .u64 (U5.take 8)) 224 (0, 0)))
            refine WO_nil ?_
            refine thn_normal ?_
            refine W_seq ?_
            refine W_region rfl ?_
            refine WO_p (PS_slA Hvad.runUnderlying224 Hvad.sizeOf26 rfl (by omega)) ?_
            refine WO_p (PS_move_int rfl) ?_
            refine WO_call Hvad.call278 (by rfl) (Ret.mono (shiftDown_spec b4 0 8 _ 224 (U5.take 8) _ _ (Hb.mk (Hb.h (by repeat (first | assumption | exact Hb.newY _ _ | refine Hb.alloc ?_ | refine Hb.drew ?_ | refine Hb.ext (by assumption) ?_ | exact Hb.setSameL (by first | omega | (simp only [size_alloc, size_setB, size_drew]; omega)) | exact Hb.setSame (by assumption) | refine Hb.set (by first | omega | (simp only [size_alloc, size_setB, size_drew]; omega)) ?_ )))) hW32 (by omega) (by omega) (by omega)) ?_)
            rintro _ w33 ⟨rfl, hT33⟩
            obtain ⟨R34, hU33, hUL33⟩ := hT33.ut
            have hz33 := hU33.keep.sz
            try simp only [size_setB] at hz33
            have hR34l : R34.length = 8 := by rw [hU33.len]; exact hu58
            have hE33 : Ext w w33 := hU33.ext1 (Ext.setB hE5' (by omega) _) (by omega)
            have hb533 := hU33.other (Hb.mk (Hb.h (by repeat (first | assumption | exact Hb.newY _ _ | refine Hb.alloc ?_ | refine Hb.drew ?_ | refine Hb.ext (by assumption) ?_ | exact Hb.setSameL (by first | omega | (simp only [size_alloc, size_setB, size_drew]; omega)) | exact Hb.setSame (by assumption) | refine Hb.set (by first | omega | (simp only [size_alloc, size_setB, size_drew]; omega)) ?_ ))) : Hb _ b5 (.cells (ic .u8 p5) 281 (0, 0))) (by omega)
            have hb433 := hU33.hb
            refine WO_nil ?_
            refine thn_normal ?_
            refine W_seq ?_
            refine W_drawT2 [false, false, true, false] (RetW b4 b5 R34 p5) hmix (by kernel_rfl) rfl ⟨Hb.mk (Hb.h (by repeat (first | assumption | exact Hb.newY _ _ | refine Hb.alloc ?_ | refine Hb.drew ?_ | refine Hb.ext (by assumption) ?_ | exact Hb.setSameL (by first | omega | (simp only [size_alloc, size_setB, size_drew]; omega)) | exact Hb.setSame (by assumption) | refine Hb.set (by first | omega | (simp only [size_alloc, size_setB, size_drew]; omega)) ?_ ))), Hb.mk (Hb.h (by repeat (first | assumption | exact Hb.newY _ _ | refine Hb.alloc ?_ | refine Hb.drew ?_ | refine Hb.ext (by assumption) ?_ | exact Hb.setSameL (by first | omega | (simp only [size_alloc, size_setB, size_drew]; omega)) | exact Hb.setSame (by assumption) | refine Hb.set (by first | omega | (simp only [size_alloc, size_setB, size_drew]; omega)) ?_ )))⟩ ?_
            intro hSt
            have hSt4 := hSt.h4
            have hSt5 := hSt.h5
            have hSt5l := hSt5.lt
            have hSt4l := hSt4.lt
            try simp only [size_drew] at hSt5l hSt4l
            have hRs : (Value.agg (ic .u64 R34)).cells.size = 8 := by simp only [Value.cells, size_ic]; first | rfl | omega
            have hps : (Value.agg (ic .u8 p5)).cells.size = 3 := by simp only [Value.cells, size_ic]; first | rfl | omega
            refine WH_loadA0 (ic .u64 R34) Hvad.isAgg224 Hvad.sizeOf224 rfl (fun w' hS => row_at hS.h4 (by first | rfl | omega)) ?_
            refine WH_loadA0 (ic .u8 p5) Hvad.isAgg281 Hvad.sizeOf281 rfl (fun w' hS => row_at hS.h5 (by first | rfl | omega)) ?_
            first | refine WH_storeW Hvad.sizeOf224 rfl (v := .agg _) rfl hSt4.h rfl hRs hRs oneCell_ic (fun _ => ⟨Hb.setSame hSt4, Hb.set (by omega) hSt5⟩) ?_ | refine WH_storeW Hvad.sizeOf281 rfl (v := .agg _) rfl (Hb.h (Hb.set (by omega) hSt5)) rfl hps hps oneCell_ic (fun h => by cases h) ?_
            first | refine WH_storeW Hvad.sizeOf224 rfl (v := .agg _) rfl hSt4.h rfl hRs hRs oneCell_ic (fun _ => ⟨Hb.setSame hSt4, Hb.set (by omega) hSt5⟩) ?_ | refine WH_storeW Hvad.sizeOf281 rfl (v := .agg _) rfl (Hb.h (Hb.set (by omega) hSt5)) rfl hps hps oneCell_ic (fun h => by cases h) ?_
            refine WH_nil ?_
            refine thn_normal ?_
            refine W_ret ?_
            refine bodyQ_cell2 Hvad.results238 rfl rfl Hvad.isAgg224 Hvad.sizeOf224 Hvad.isAgg281 Hvad.sizeOf281 rfl (Hb.h (by repeat (first | assumption | exact Hb.newY _ _ | refine Hb.alloc ?_ | refine Hb.drew ?_ | refine Hb.ext (by assumption) ?_ | exact Hb.setSameL (by first | omega | (simp only [size_alloc, size_setB, size_drew]; omega)) | exact Hb.setSame (by assumption) | refine Hb.set (by first | omega | (simp only [size_alloc, size_setB, size_drew]; omega)) ?_ ))) (by first | omega | assumption | rfl | decide | exact Nat.le_refl _ | (simp only [size_ic, Value.cells]; omega) | simp) rfl (Hb.h (by repeat (first | assumption | exact Hb.newY _ _ | refine Hb.alloc ?_ | refine Hb.drew ?_ | refine Hb.ext (by assumption) ?_ | exact Hb.setSameL (by first | omega | (simp only [size_alloc, size_setB, size_drew]; omega)) | exact Hb.setSame (by assumption) | refine Hb.set (by first | omega | (simp only [size_alloc, size_setB, size_drew]; omega)) ?_ ))) (by first | omega | assumption | rfl | decide | exact Nat.le_refl _ | (simp only [size_ic, Value.cells]; omega) | simp) ?_
            exact ⟨Ext.setB (Ext.setB (Ext.drew hE33) (by omega) _) (by omega) _, _, _, rfl, hR34l, hUL33, hp5⟩

end Go.Proofs.YgvadwGreat
