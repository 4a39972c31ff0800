import Derived.Test.YgvadwGreatNh
namespace Go.Proofs.YgvadwGreat
set_option linter.unusedSimpArgs false
set_option linter.unusedVariables false

set_option maxRecDepth 10000 in
set_option maxHeartbeats 4000000 in
theorem opSwap_spec (scan : List Int → List Int) (C : Nat) (c : Array Value) (v : V) (B : VB) (m : Mc) (t : Nat) (f : Fm) (o c' S : Int) (w : World) (hM : MS w C c v B m) (hop : Mc.opc f = o) (hAd : Adm scan v m t f o (infoW o).2.2.1 c' S) (hk : (infoW o).1 ≤ f.sp ∧ f.sp - (infoW o).1 + (infoW o).2.1 ≤ 64) (hc : 0 < c') (ho : 144 ≤ o ∧ o ≤ 159) : Ret Hvad.prog 215 #[.pointer (some ⟨C, 0, none⟩)] w fun _ w' => ∃ v' m', MRet w C B m w' v' m' ∧ OpP scan m t c' S v' m' := by
  have hI := hAd.ri
  have hf := hAd.fr
  have hR := hI.run hf
  have hA := hR.fa
  have hblk := hM.vs.blk
  have hCl := hblk.lt
  have hcs := hM.sz
  have hc_s := hM.rep.s
  obtain ⟨ht7, hfty, hF⟩ := hM.openF hf
  have hFk := hI.fr t f (Nat.le_refl _) hf
  have hvi := hI.ti.vi
  have hcbl := (hM.code f (List.mem_of_getElem? hf)).1.len
  have hcb5 := hFk.cl
  have hcl : f.code.2.1 ≤ 100000 := by omega
  have hpct := hfty.pc
  have hspt := hfty.sp
  have hwdA := fun i => argW_wd hM.ty f i
  have hpcl : f.pc < (f.cb.length : Int) := opc_pc (by rw [hop]; omega)
  
  have e : infoW o = (o - 144 + 2, o - 144 + 2, 3, true) := by unfold infoW; rw [if_neg (by omega), if_neg (by omega), if_pos (by omega)]
  have hin := hk
  rw [e] at hin
  replace hin : o - 144 + 2 ≤ f.sp ∧ f.sp - (o - 144 + 2) + (o - 144 + 2) ≤ 64 := hin
  have hsb := hA.sb
  have ht6 := hA.t6
  have hf_sb := hF.sbase
  have hf_sp := hF.sp
  have hstl := hM.ty.stack.1
  obtain ⟨x1, hx1⟩ : ∃ x, m.stack[(f.sbase + f.sp - 1).toNat]? = some x := ⟨_, List.getElem?_eq_getElem (by omega)⟩
  obtain ⟨x2, hx2⟩ : ∃ x, m.stack[(f.sbase + f.sp - 1 - (o - 144) - 1).toNat]? = some x := ⟨_, List.getElem?_eq_getElem (by omega)⟩
  obtain ⟨hxt1, hwd1, _⟩ := hM.openW hx1
  obtain ⟨hxt2, hwd2, _⟩ := hM.openW hx2
  have hl1 := hwd1.1
  have hl2 := hwd2.1
  
  refine Ret_of_W Hvad.func215 rfl rfl ?_
  refine W_seq ?_
  refine W_region rfl ?_
  refine WO_p (PS_move_ptr rfl) ?_
  refine WO_call Hvad.call91 (by rfl) (Ret.mono (running_spec C c v B m t f _ (MS.ext hM (by repeat (first | assumption | exact Ext.refl _ | refine Ext.alloc ?_ _ | refine Ext.drew ?_ | refine Ext.setB ?_ (by first | omega | (simp only [size_alloc, size_setB, size_drew]; omega)) _ | exact Ext.trans (by assumption) (by assumption) | refine Ext.trans ?_ (by assumption)))) hR) ?_)
  rintro _ w91_0 ⟨hE91_0, rfl⟩
  have hz91_0 := hE91_0.1
  try simp only [size_alloc, size_setB, size_drew] at hz91_0
  refine WO_p (PS_assign_ptr rfl) ?_
  refine WO_nil ?_
  refine thn_normal ?_
  refine W_seq ?_
  refine W_seq ?_
  refine W_region rfl ?_
  refine WO_p (PS_move_ptr rfl) ?_
  refine WO_p (PS_eqlnil Hvad.underlying182 rfl) ?_
  refine WO_nil ?_
  refine thn_normal ?_
  refine W_if rfl (fun hb3 => ?_) (fun hb3 => ?_)
  · have hb3p := hb3.h; try simp only [al_ete, al_dfn, Bool.not_eq_true', Bool.not_eq_false', al_ne, Bool.not_not, al_nn] at hb3p
    simp at hb3p --END
  · have hb3p := hb3.h; try simp only [al_ete, al_dfn, Bool.not_eq_true', Bool.not_eq_false', al_ne, Bool.not_not, al_nn] at hb3p
    refine W_skip ?_
    refine thn_normal ?_
    refine W_seq ?_
    refine W_drawE [false, false, false, false, false, false, false, false, false, false, false, false, false] hmix (by kernel_rfl) rfl ?_
    refine WH_p (PS_move_ptr rfl) rfl ?_
    refine WH_p (PS_nilCheck rfl) rfl ?_
    refine WH_p (PS_fieldAddr 5 Hvad.runUnderlying65 rfl Hvad.sizeOf61 rfl rfl) rfl ?_
    refine WH_load (.int _ _) Hvad.isAgg61 rfl (Hb.h (by repeat (first | assumption | exact Hb.newY _ _ | refine Hb.alloc ?_ | refine Hb.drew ?_ | refine Hb.ext (by assumption) ?_ | exact Hb.setSameL (by first | omega | (simp only [size_alloc, size_setB, size_drew]; omega)) | exact Hb.setSame (by assumption) | refine Hb.set (by first | omega | (simp only [size_alloc, size_setB, size_drew]; omega)) ?_ ))) (Ce.h (by first | assumption | exact ⟨rfl⟩)) ?_
    refine WH_p (PS_conv_i64n Hvad.runUnderlying61 Hvad.runUnderlying3 rfl (by omega) (by omega)) rfl ?_
    refine WH_p (PS_move_ptr rfl) rfl ?_
    refine WH_p (PS_nilCheck rfl) rfl ?_
    refine WH_p (PS_fieldAddr 6 Hvad.runUnderlying65 rfl Hvad.sizeOf61 rfl rfl) rfl ?_
    refine WH_load (.int _ _) Hvad.isAgg61 rfl (Hb.h (by repeat (first | assumption | exact Hb.newY _ _ | refine Hb.alloc ?_ | refine Hb.drew ?_ | refine Hb.ext (by assumption) ?_ | exact Hb.setSameL (by first | omega | (simp only [size_alloc, size_setB, size_drew]; omega)) | exact Hb.setSame (by assumption) | refine Hb.set (by first | omega | (simp only [size_alloc, size_setB, size_drew]; omega)) ?_ ))) (Ce.h (by first | assumption | exact ⟨rfl⟩)) ?_
    refine WH_p (PS_conv_i64n Hvad.runUnderlying61 Hvad.runUnderlying3 rfl (by omega) (by omega)) rfl ?_
    refine WH_p (PS_add_i64n rfl rfl (by omega) (by omega)) rfl ?_
    refine WH_p (PS_sub_i64n rfl rfl (by omega) (by omega)) rfl ?_
    refine WH_p (PS_assign_int rfl) rfl ?_
    refine WH_nil ?_
    refine thn_normal ?_
    refine W_seq ?_
    refine W_region rfl ?_
    refine WO_p (PS_move_int rfl) ?_
    refine WO_p (PS_move_ptr rfl) ?_
    refine WO_call Hvad.call49 (by rfl) (Ret.mono (opcode_spec C c v B m t f _ (MS.ext hM (by repeat (first | assumption | exact Ext.refl _ | refine Ext.alloc ?_ _ | refine Ext.drew ?_ | refine Ext.setB ?_ (by first | omega | (simp only [size_alloc, size_setB, size_drew]; omega)) _ | exact Ext.trans (by assumption) (by assumption) | refine Ext.trans ?_ (by assumption)))) hR hcl) ?_)
    rintro _ w49_3 ⟨hE49_3, rfl⟩
    have hz49_3 := hE49_3.1
    try simp only [size_alloc, size_setB, size_drew] at hz49_3
    try rw [hop]
    refine WO_p (PS_sub_u8n rfl rfl (by omega) (by omega)) ?_
    refine WO_p (PS_conv_i64n Hvad.runUnderlying5 Hvad.runUnderlying3 rfl (by omega) (by omega)) ?_
    refine WO_p (PS_sub_i64n rfl rfl (by omega) (by omega)) ?_
    refine WO_p (PS_sub_i64n rfl rfl (by omega) (by omega)) ?_
    refine WO_p (PS_assign_int rfl) ?_
    refine WO_nil ?_
    refine thn_normal ?_
    refine W_seq ?_
    refine W_seq ?_
    refine W_region rfl ?_
    refine WO_p (PS_move_int rfl) ?_
    refine WO_p (PS_lss rfl rfl) ?_
    refine WO_p (PS_move_bool rfl) ?_
    refine WO_if (t := 31) rfl (fun hb6 => ?_) (fun hb6 => ?_)
    · have hb6p := hb6.h; try simp only [al_ete, al_dfn, Bool.not_eq_true', Bool.not_eq_false', al_ne, Bool.not_not, al_nn] at hb6p
      omega --END
    · have hb6p := hb6.h; try simp only [al_ete, al_dfn, Bool.not_eq_true', Bool.not_eq_false', al_ne, Bool.not_not, al_nn] at hb6p
      refine WO_guardT rfl rfl hb6.h ?_
      refine WO_p (PS_move_int rfl) ?_
      refine WO_guardT rfl rfl hb6.h ?_
      refine WO_p (PS_geq rfl rfl) ?_
      refine WO_p (PS_pickF rfl hb6.h rfl) ?_
      refine WO_nil ?_
      refine thn_normal ?_
      refine W_if rfl (fun hb8 => ?_) (fun hb8 => ?_)
      · have hb8p := hb8.h; try simp only [al_ete, al_dfn, Bool.not_eq_true', Bool.not_eq_false', al_ne, Bool.not_not, al_nn] at hb8p
        omega --END
      · have hb8p := hb8.h; try simp only [al_ete, al_dfn, Bool.not_eq_true', Bool.not_eq_false', al_ne, Bool.not_not, al_nn] at hb8p
        refine W_skip ?_
        refine thn_normal ?_
        refine W_seq ?_
        refine W_region rfl ?_
        refine WO_p (PS_move_ptr rfl) ?_
        refine WO_p (PS_move_int rfl) ?_
        refine WO_p (PS_nilCheck rfl) ?_
        refine WO_p (PS_fieldAddr 11 Hvad.runUnderlying69 rfl Hvad.sizeOf60 rfl rfl) ?_
        refine WO_p (PS_indexA Hvad.runUnderlying60 Hvad.sizeOf59 rfl rfl (by omega) (by omega)) ?_
        refine WO_loadA _ Hvad.isAgg59 Hvad.sizeOf59 rfl (Hb.h (by repeat (first | assumption | exact Hb.newY _ _ | refine Hb.alloc ?_ | refine Hb.drew ?_ | refine Hb.ext (by assumption) ?_ | exact Hb.setSameL (by first | omega | (simp only [size_alloc, size_setB, size_drew]; omega)) | exact Hb.setSame (by assumption) | refine Hb.set (by first | omega | (simp only [size_alloc, size_setB, size_drew]; omega)) ?_ ))) (by first | omega | assumption | rfl | decide | exact Nat.le_refl _ | (simp only [size_ic, Value.cells]; omega) | simp) (Xt.h (by first | assumption | exact Xt.whole rfl rfl | exact Xt.whole rfl (by simp only [size_ic, Value.cells]; omega) | exact ⟨rfl⟩)) ?_
        refine WO_allocG Hvad.zeroValue59 ?_
        intro b5 v5 hg5 hE5 hH5 hl5
        try simp only [size_alloc, size_setB, size_drew] at hg5
        have hzz5 := hE5.1
        try simp only [size_alloc, size_setB, size_drew] at hzz5
        replace hH5 : Hb v5 b5 (.cells (ic .u64 [0, 0, 0, 0]) 59 (0, 0)) := hH5
        first | refine WO_storeW Hvad.sizeOf59 rfl (v := .agg _) rfl (Hb.h (by repeat (first | assumption | exact Hb.newY _ _ | refine Hb.alloc ?_ | refine Hb.drew ?_ | refine Hb.ext (by assumption) ?_ | exact Hb.setSameL (by first | omega | (simp only [size_alloc, size_setB, size_drew]; omega)) | exact Hb.setSame (by assumption) | refine Hb.set (by first | omega | (simp only [size_alloc, size_setB, size_drew]; omega)) ?_ ))) rfl (by first | omega | assumption | rfl | decide | exact Nat.le_refl _ | (simp only [size_ic, Value.cells]; omega) | simp) (by first | omega | assumption | rfl | decide | exact Nat.le_refl _ | (simp only [size_ic, Value.cells]; omega) | simp) (by first | exact oneCell_ic | assumption) ?_ | refine WO_store Hvad.sizeOf59 rfl (v := .agg _) rfl (Hb.h (by repeat (first | assumption | exact Hb.newY _ _ | refine Hb.alloc ?_ | refine Hb.drew ?_ | refine Hb.ext (by assumption) ?_ | exact Hb.setSameL (by first | omega | (simp only [size_alloc, size_setB, size_drew]; omega)) | exact Hb.setSame (by assumption) | refine Hb.set (by first | omega | (simp only [size_alloc, size_setB, size_drew]; omega)) ?_ ))) (by first | omega | assumption | rfl | decide | exact Nat.le_refl _ | (simp only [size_ic, Value.cells]; omega) | simp) (by first | omega | assumption | rfl | decide | exact Nat.le_refl _ | (simp only [size_ic, Value.cells]; omega) | simp) (by first | exact oneCell_ic | assumption) ?_
        refine WO_nil ?_
        refine thn_normal ?_
        refine W_seq ?_
        have hP1 := fun W (hW : Ext w W) => (hM.ext hW).put_stack hx1 x2 hwd2
        have hcs1 : (splice c (0 + 11 + (f.sbase + f.sp - 1).toNat * 4) (Value.agg (ic .u64 x2)).cells.toList).size = 27024 := (by rw [Nat.zero_add]; exact ((hP1 w (Ext.refl w)).1).sz)
        refine W_drawE [false, false, false, false, false, false, false, false, false, false, false, false] hmix (by kernel_rfl) rfl ?_
        refine WH_p (PS_move_ptr rfl) rfl ?_
        refine WH_p (PS_move_int rfl) rfl ?_
        refine WH_p (PS_move_ptr rfl) rfl ?_
        refine WH_p (PS_move_int rfl) rfl ?_
        refine WH_p (PS_nilCheck rfl) rfl ?_
        refine WH_p (PS_fieldAddr 11 Hvad.runUnderlying69 rfl Hvad.sizeOf60 rfl rfl) rfl ?_
        refine WH_p (PS_indexA Hvad.runUnderlying60 Hvad.sizeOf59 rfl rfl (by omega) (by omega)) rfl ?_
        refine WH_loadA _ Hvad.isAgg59 Hvad.sizeOf59 rfl (Hb.h (by repeat (first | assumption | exact Hb.newY _ _ | refine Hb.alloc ?_ | refine Hb.drew ?_ | refine Hb.ext (by assumption) ?_ | exact Hb.setSameL (by first | omega | (simp only [size_alloc, size_setB, size_drew]; omega)) | exact Hb.setSame (by assumption) | refine Hb.set (by first | omega | (simp only [size_alloc, size_setB, size_drew]; omega)) ?_ ))) (by first | omega | assumption | rfl | decide | exact Nat.le_refl _ | (simp only [size_ic, Value.cells]; omega) | simp) (Xt.h (by first | assumption | exact Xt.whole rfl rfl | exact Xt.whole rfl (by simp only [size_ic, Value.cells]; omega) | exact ⟨rfl⟩)) ?_
        refine WH_p (PS_nilCheck rfl) rfl ?_
        refine WH_p (PS_fieldAddr 11 Hvad.runUnderlying69 rfl Hvad.sizeOf60 rfl rfl) rfl ?_
        refine WH_p (PS_indexA Hvad.runUnderlying60 Hvad.sizeOf59 rfl rfl (by omega) (by omega)) rfl ?_
        first | refine WH_storeW Hvad.sizeOf59 rfl (v := .agg _) rfl (Hb.h (by repeat (first | assumption | exact Hb.newY _ _ | refine Hb.alloc ?_ | refine Hb.drew ?_ | refine Hb.ext (by assumption) ?_ | exact Hb.setSameL (by first | omega | (simp only [size_alloc, size_setB, size_drew]; omega)) | exact Hb.setSame (by assumption) | refine Hb.set (by first | omega | (simp only [size_alloc, size_setB, size_drew]; omega)) ?_ ))) rfl (by first | omega | assumption | rfl | decide | exact Nat.le_refl _ | (simp only [size_ic, Value.cells]; omega) | simp) (by first | omega | assumption | rfl | decide | exact Nat.le_refl _ | (simp only [size_ic, Value.cells]; omega) | simp) (by first | exact oneCell_ic | assumption) (fun h => by cases h) ?_ | refine WH_store Hvad.sizeOf59 rfl (v := .agg _) rfl (Hb.h (by repeat (first | assumption | exact Hb.newY _ _ | refine Hb.alloc ?_ | refine Hb.drew ?_ | refine Hb.ext (by assumption) ?_ | exact Hb.setSameL (by first | omega | (simp only [size_alloc, size_setB, size_drew]; omega)) | exact Hb.setSame (by assumption) | refine Hb.set (by first | omega | (simp only [size_alloc, size_setB, size_drew]; omega)) ?_ ))) (by first | omega | assumption | rfl | decide | exact Nat.le_refl _ | (simp only [size_ic, Value.cells]; omega) | simp) (by first | omega | assumption | rfl | decide | exact Nat.le_refl _ | (simp only [size_ic, Value.cells]; omega) | simp) (by first | exact oneCell_ic | assumption) (fun h => by cases h) ?_
        refine WH_nil ?_
        refine thn_normal ?_
        refine W_seq ?_
        obtain ⟨x3, hx3⟩ : ∃ x, (m.stack.set (f.sbase + f.sp - 1).toNat x2)[(f.sbase + f.sp - 1 - (o - 144) - 1).toNat]? = some x := ⟨_, List.getElem?_eq_getElem (by simp; omega)⟩
        have hP2 := fun W W' (hW : Ext w W) (hW' : Ext _ W') => ((hP1 W hW).1.ext hW').put_stack hx3 x1 hwd1
        have hM2 := (hP2 w _ (Ext.refl w) (Ext.refl _)).1
        have hcs2 : (splice (splice c (0 + 11 + (f.sbase + f.sp - 1).toNat * 4) (Value.agg (ic .u64 x2)).cells.toList) (0 + 11 + (f.sbase + f.sp - 1 - (o - 144) - 1).toNat * 4) (Value.agg (Value.agg (ic .u64 x1)).cells).cells.toList).size = 27024 := (by rw [Nat.zero_add]; exact hM2.sz)
        obtain ⟨_, _, hF2⟩ := hM2.openF (show ({ m with stack := _ } : Mc).frames[t]? = some f from hf)
        have hf_pc2 : Ce (splice (splice c (0 + 11 + (f.sbase + f.sp - 1).toNat * 4) (Value.agg (ic .u64 x2)).cells.toList) (0 + 11 + (f.sbase + f.sp - 1 - (o - 144) - 1).toNat * 4) (Value.agg (Value.agg (ic .u64 x1)).cells).cells.toList) (1803 + t * 65 + 4) (.int .u16 f.pc) := (by rw [Nat.zero_add]; exact hF2.pc)
        refine W_drawE [false, false, false, false, false, false, false] hmix (by kernel_rfl) rfl ?_
        refine WH_p (PS_move_ptr rfl) rfl ?_
        refine WH_p (PS_move_int rfl) rfl ?_
        refine WH_loadA _ Hvad.isAgg59 Hvad.sizeOf59 rfl (Hb.h (by repeat (first | assumption | exact Hb.newY _ _ | refine Hb.alloc ?_ | refine Hb.drew ?_ | refine Hb.ext (by assumption) ?_ | exact Hb.setSameL (by first | omega | (simp only [size_alloc, size_setB, size_drew]; omega)) | exact Hb.setSame (by assumption) | refine Hb.set (by first | omega | (simp only [size_alloc, size_setB, size_drew]; omega)) ?_ ))) (by first | omega | assumption | rfl | decide | exact Nat.le_refl _ | (simp only [size_ic, Value.cells]; omega) | simp) (Xt.h (by first | assumption | exact Xt.whole rfl rfl | exact Xt.whole rfl (by simp only [size_ic, Value.cells]; omega) | exact ⟨rfl⟩)) ?_
        refine WH_p (PS_nilCheck rfl) rfl ?_
        refine WH_p (PS_fieldAddr 11 Hvad.runUnderlying69 rfl Hvad.sizeOf60 rfl rfl) rfl ?_
        refine WH_p (PS_indexA Hvad.runUnderlying60 Hvad.sizeOf59 rfl rfl (by omega) (by omega)) rfl ?_
        first | refine WH_storeW Hvad.sizeOf59 rfl (v := .agg _) rfl (Hb.h (by repeat (first | assumption | exact Hb.newY _ _ | refine Hb.alloc ?_ | refine Hb.drew ?_ | refine Hb.ext (by assumption) ?_ | exact Hb.setSameL (by first | omega | (simp only [size_alloc, size_setB, size_drew]; omega)) | exact Hb.setSame (by assumption) | refine Hb.set (by first | omega | (simp only [size_alloc, size_setB, size_drew]; omega)) ?_ ))) rfl (by first | omega | assumption | rfl | decide | exact Nat.le_refl _ | (simp only [size_ic, Value.cells]; omega) | simp) (by first | omega | assumption | rfl | decide | exact Nat.le_refl _ | (simp only [size_ic, Value.cells]; omega) | simp) (by first | exact oneCell_ic | assumption) (fun h => by cases h) ?_ | refine WH_store Hvad.sizeOf59 rfl (v := .agg _) rfl (Hb.h (by repeat (first | assumption | exact Hb.newY _ _ | refine Hb.alloc ?_ | refine Hb.drew ?_ | refine Hb.ext (by assumption) ?_ | exact Hb.setSameL (by first | omega | (simp only [size_alloc, size_setB, size_drew]; omega)) | exact Hb.setSame (by assumption) | refine Hb.set (by first | omega | (simp only [size_alloc, size_setB, size_drew]; omega)) ?_ ))) (by first | omega | assumption | rfl | decide | exact Nat.le_refl _ | (simp only [size_ic, Value.cells]; omega) | simp) (by first | omega | assumption | rfl | decide | exact Nat.le_refl _ | (simp only [size_ic, Value.cells]; omega) | simp) (by first | exact oneCell_ic | assumption) (fun h => by cases h) ?_
        refine WH_nil ?_
        refine thn_normal ?_
        refine W_region rfl ?_
        refine WO_p (PS_move_ptr rfl) ?_
        refine WO_p (PS_nilCheck rfl) ?_
        refine WO_p (PS_fieldAddr 4 Hvad.runUnderlying65 rfl Hvad.sizeOf61 rfl rfl) ?_
        refine WO_load (.int _ _) Hvad.isAgg61 rfl (Hb.h (by repeat (first | assumption | exact Hb.newY _ _ | refine Hb.alloc ?_ | refine Hb.drew ?_ | refine Hb.ext (by assumption) ?_ | exact Hb.setSameL (by first | omega | (simp only [size_alloc, size_setB, size_drew]; omega)) | exact Hb.setSame (by assumption) | refine Hb.set (by first | omega | (simp only [size_alloc, size_setB, size_drew]; omega)) ?_ ))) (Ce.h (by first | assumption | exact ⟨rfl⟩)) ?_
        refine WO_p (PS_add_u16n rfl rfl (by omega) (by omega)) ?_
        refine WO_p (PS_nilCheck rfl) ?_
        refine WO_p (PS_fieldAddr 4 Hvad.runUnderlying65 rfl Hvad.sizeOf61 rfl rfl) ?_
        refine WO_store1 Hvad.sizeOf61 rfl (v := (.int _ _)) rfl (Hb.h (by repeat (first | assumption | exact Hb.newY _ _ | refine Hb.alloc ?_ | refine Hb.drew ?_ | refine Hb.ext (by assumption) ?_ | exact Hb.setSameL (by first | omega | (simp only [size_alloc, size_setB, size_drew]; omega)) | exact Hb.setSame (by assumption) | refine Hb.set (by first | omega | (simp only [size_alloc, size_setB, size_drew]; omega)) ?_ ))) rfl (by first | omega | assumption | rfl | decide | exact Nat.le_refl _ | (simp only [size_ic, Value.cells]; omega) | simp) rfl ?_
        refine WO_nil ?_
        first | refine bodyQ_ret0 Hvad.results215 ?_ | refine bodyQ_end0 Hvad.results215 ?_
        have hP3 := fun W W' (hW : Ext w W) (hW' : Ext _ W') => (hP2 W W' hW hW').1.putF_pc (show ({ m with stack := _ } : Mc).frames[t]? = some f from hf) (f.pc + 1) (by omega)
        rw [Nat.zero_add]
        have hst := hI.set (v' := v) (f' := { f with pc := f.pc + 1 }) (stk := (m.stack.set (f.sbase + f.sp - 1).toNat x2).set (f.sbase + f.sp - 1 - (o - 144) - 1).toNat x1) (ret' := m.ret) hf hI.rw0 hvi (fun _ h => h) (Int.le_refl _) hI.ti.rt rfl rfl rfl { hFk with pc := by show f.pc + 1 ≤ (f.cb.length : Int) + 33; omega }
        have hQ3 := fun W W' (hW : Ext w W) (hW' : Ext _ W') => (show MRet w C B m _ v _ from ⟨_, _, (hP3 W W' hW hW').1, (((MStep.ext hW).trans (hP1 W hW).2).trans ((MStep.ext hW').trans (hP2 W W' hW hW').2)).trans (hP3 W W' hW hW').2⟩)
        refine ⟨v, _, hQ3 (setB v5 b5 (Obj.cells (Value.agg (ic .u64 x1)).cells 59 (0, 0))).drew _ ?h1 ?h2, Or.inl ⟨t, hst.1, Or.inl (by show gasTo (m.frames.set t _) (t + 1) < _; rw [hst.2]; omega)⟩⟩
        case h2 => exact Ext.drew (Ext.refl _)
        exact (by repeat (first | assumption | exact Ext.refl _ | refine Ext.alloc ?_ _ | refine Ext.drew ?_ | refine Ext.setB ?_ (by first | omega | (simp only [size_alloc, size_setB, size_drew]; omega)) _ | refine Ext.trans ?_ (by assumption)))

set_option maxRecDepth 10000 in
set_option maxHeartbeats 4000000 in
theorem opPush_spec (scan : List Int → List Int) (C : Nat) (c : Array Value) (v : V) (B : VB) (m : Mc) (t : Nat) (f : Fm) (o c' S : Int) (w : World) (hM : MS w C c v B m) (hop : Mc.opc f = o) (hAd : Adm scan v m t f o (infoW o).2.2.1 c' S) (hk : (infoW o).1 ≤ f.sp ∧ f.sp - (infoW o).1 + (infoW o).2.1 ≤ 64) (hc : 0 < c') (ho : 95 ≤ o ∧ o ≤ 127) : Ret Hvad.prog 213 #[.pointer (some ⟨C, 0, none⟩)] w fun _ w' => ∃ v' m', MRet w C B m w' v' m' ∧ OpP scan m t c' S v' m' := by
  have hI := hAd.ri
  have hf := hAd.fr
  have hR := hI.run hf
  have hA := hR.fa
  have hblk := hM.vs.blk
  have hCl := hblk.lt
  have hcs := hM.sz
  have hc_s := hM.rep.s
  obtain ⟨ht7, hfty, hF⟩ := hM.openF hf
  have hFk := hI.fr t f (Nat.le_refl _) hf
  have hvi := hI.ti.vi
  have hcbl := (hM.code f (List.mem_of_getElem? hf)).1.len
  have hcb5 := hFk.cl
  have hcl : f.code.2.1 ≤ 100000 := by omega
  have hpct := hfty.pc
  have hspt := hfty.sp
  have hwdA := fun i => argW_wd hM.ty f i
  have hpcl : f.pc < (f.cb.length : Int) := opc_pc (by rw [hop]; omega)
  
  have hn33 : 0 ≤ immOf o ∧ immOf o ≤ 32 := by unfold immOf; split <;> omega
  have hin : f.sp < 64 := by
    by_cases h95 : o = 95
    · subst h95; have h := hk; simp [infoW] at h; omega
    · have e : infoW o = (0, 1, 3, true) := by unfold infoW; rw [if_pos (by omega)]
      have h := hk; rw [e] at h; replace h : (0 : Int) ≤ f.sp ∧ f.sp - 0 + 1 ≤ 64 := h; omega
  have hf_pc := hF.pc
  have hf_code := hF.code
  have hcb := (hM.code f (List.mem_of_getElem? hf)).1
  have hcc := hFk.cc
  have hcby := hcb.by_
  generalize hn0 : immOf o = n at *
  rcases hcb with ⟨_, h2, _⟩ | ⟨b, r, fz, h1, h2, h3, h4, h5, h6, h7⟩
  · omega
  rw [h1] at hf_code
  have hsc : SC w .u8 1 (some ⟨b, 0, none⟩, f.code.2.1, f.code.2.2) f.cb := by have := (hM.code f (List.mem_of_getElem? hf)).1.sc; unfold SC at this ⊢; rw [h1] at this; exact this
  
  refine Ret_of_W Hvad.func213 rfl rfl ?_
  refine W_seq ?_
  refine W_region rfl ?_
  refine WO_p (PS_move_ptr rfl) ?_
  refine WO_call Hvad.call91 (by rfl) (Ret.mono (running_spec C c v B m t f _ (MS.ext hM (by repeat (first | assumption | exact Ext.refl _ | refine Ext.alloc ?_ _ | refine Ext.drew ?_ | refine Ext.setB ?_ (by first | omega | (simp only [size_alloc, size_setB, size_drew]; omega)) _ | exact Ext.trans (by assumption) (by assumption) | refine Ext.trans ?_ (by assumption)))) hR) ?_)
  rintro _ w91_0 ⟨hE91_0, rfl⟩
  have hz91_0 := hE91_0.1
  try simp only [size_alloc, size_setB, size_drew] at hz91_0
  refine WO_p (PS_assign_ptr rfl) ?_
  refine WO_nil ?_
  refine thn_normal ?_
  refine W_seq ?_
  refine W_seq ?_
  refine W_region rfl ?_
  refine WO_p (PS_move_ptr rfl) ?_
  refine WO_p (PS_eqlnil Hvad.underlying182 rfl) ?_
  refine WO_nil ?_
  refine thn_normal ?_
  refine W_if rfl (fun hb3 => ?_) (fun hb3 => ?_)
  · have hb3p := hb3.h; try simp only [al_ete, al_dfn, Bool.not_eq_true', Bool.not_eq_false', al_ne, Bool.not_not, al_nn] at hb3p
    simp at hb3p --END
  · have hb3p := hb3.h; try simp only [al_ete, al_dfn, Bool.not_eq_true', Bool.not_eq_false', al_ne, Bool.not_not, al_nn] at hb3p
    refine W_skip ?_
    refine thn_normal ?_
    refine W_seq ?_
    refine W_region rfl ?_
    refine WO_p (PS_move_ptr rfl) ?_
    refine WO_call Hvad.call49 (by rfl) (Ret.mono (opcode_spec C c v B m t f _ (MS.ext hM (by repeat (first | assumption | exact Ext.refl _ | refine Ext.alloc ?_ _ | refine Ext.drew ?_ | refine Ext.setB ?_ (by first | omega | (simp only [size_alloc, size_setB, size_drew]; omega)) _ | exact Ext.trans (by assumption) (by assumption) | refine Ext.trans ?_ (by assumption)))) hR hcl) ?_)
    rintro _ w49_3 ⟨hE49_3, rfl⟩
    have hz49_3 := hE49_3.1
    try simp only [size_alloc, size_setB, size_drew] at hz49_3
    try rw [hop]
    refine WO_call Hvad.call130 (by rfl) (Ret.mono (imm_spec _ _ (by omega)) ?_)
    rintro _ w130_4 ⟨hE130_4, rfl⟩
    have hz130_4 := hE130_4.1
    try simp only [size_alloc, size_setB, size_drew] at hz130_4
    rw [hn0]
    refine WO_p (PS_conv_i64n Hvad.runUnderlying5 Hvad.runUnderlying3 rfl (by omega) (by omega)) ?_
    refine WO_p (PS_assign_int rfl) ?_
    refine WO_nil ?_
    refine thn_normal ?_
    refine W_seq ?_
    refine W_seq ?_
    refine W_region rfl ?_
    refine WO_p (PS_move_ptr rfl) ?_
    refine WO_p (PS_nilCheck rfl) ?_
    refine WO_p (PS_fieldAddr 4 Hvad.runUnderlying65 rfl Hvad.sizeOf61 rfl rfl) ?_
    refine WO_load (.int _ _) Hvad.isAgg61 rfl (Hb.h (by repeat (first | assumption | exact Hb.newY _ _ | refine Hb.alloc ?_ | refine Hb.drew ?_ | refine Hb.ext (by assumption) ?_ | exact Hb.setSameL (by first | omega | (simp only [size_alloc, size_setB, size_drew]; omega)) | exact Hb.setSame (by assumption) | refine Hb.set (by first | omega | (simp only [size_alloc, size_setB, size_drew]; omega)) ?_ ))) (Ce.h (by first | assumption | exact ⟨rfl⟩)) ?_
    refine WO_p (PS_conv_i64n Hvad.runUnderlying61 Hvad.runUnderlying3 rfl (by omega) (by omega)) ?_
    refine WO_p (PS_add_i64n rfl rfl (by omega) (by omega)) ?_
    refine WO_p (PS_move_int rfl) ?_
    refine WO_p (PS_add_i64n rfl rfl (by omega) (by omega)) ?_
    refine WO_p (PS_assign_int rfl) ?_
    refine WO_nil ?_
    refine thn_normal ?_
    refine W_seq ?_
    refine W_region rfl ?_
    refine WO_p (PS_move_int rfl) ?_
    refine WO_p (PS_leq rfl rfl) ?_
    refine WO_p (PS_move_bool rfl) ?_
    refine WO_if (t := 28) rfl (fun hb7 => ?_) (fun hb7 => ?_)
    · have hb7p := hb7.h; try simp only [al_ete, al_dfn, Bool.not_eq_true', Bool.not_eq_false', al_ne, Bool.not_not, al_nn] at hb7p
      refine WO_guardT rfl rfl hb7.h ?_
      refine WO_p (PS_move_int rfl) ?_
      refine WO_guardT rfl rfl hb7.h ?_
      refine WO_p (PS_move_ptr rfl) ?_
      refine WO_guardT rfl rfl hb7.h ?_
      refine WO_p (PS_nilCheck rfl) ?_
      refine WO_guardT rfl rfl hb7.h ?_
      refine WO_p (PS_fieldAddr 53 Hvad.runUnderlying65 rfl Hvad.sizeOf32 rfl rfl) ?_
      refine WO_guardT rfl rfl hb7.h ?_
      refine WO_load (.slice _ _ _) Hvad.isAgg32 rfl (Hb.h (by repeat (first | assumption | exact Hb.newY _ _ | refine Hb.alloc ?_ | refine Hb.drew ?_ | refine Hb.ext (by assumption) ?_ | exact Hb.setSameL (by first | omega | (simp only [size_alloc, size_setB, size_drew]; omega)) | exact Hb.setSame (by assumption) | refine Hb.set (by first | omega | (simp only [size_alloc, size_setB, size_drew]; omega)) ?_ ))) (Ce.h (by first | assumption | exact ⟨rfl⟩)) ?_
      refine WO_guardT rfl rfl hb7.h ?_
      refine WO_p (PS_lenS Hvad.runUnderlying32 rfl) ?_
      refine WO_guardT rfl rfl hb7.h ?_
      refine WO_p (PS_leq rfl rfl) ?_
      refine WO_p (PS_pickT rfl hb7.h rfl) ?_
      refine WO_nil ?_
      refine thn_normal ?_
      refine W_if rfl (fun hb9 => ?_) (fun hb9 => ?_)
      · have hb9p := hb9.h; try simp only [al_ete, al_dfn, Bool.not_eq_true', Bool.not_eq_false', al_ne, Bool.not_not, al_nn] at hb9p
        refine W_seq ?_
        refine W_region rfl ?_
        refine WO_p (PS_assign_int rfl) ?_
        refine WO_nil ?_
        refine thn_normal ?_
        refine W_seq ?_
        refine W_seq ?_
        refine W_region rfl ?_
        refine WO_p (PS_move_ptr rfl) ?_
        refine WO_p (PS_nilCheck rfl) ?_
        refine WO_p (PS_fieldAddr 53 Hvad.runUnderlying65 rfl Hvad.sizeOf32 rfl rfl) ?_
        refine WO_load (.slice _ _ _) Hvad.isAgg32 rfl (Hb.h (by repeat (first | assumption | exact Hb.newY _ _ | refine Hb.alloc ?_ | refine Hb.drew ?_ | refine Hb.ext (by assumption) ?_ | exact Hb.setSameL (by first | omega | (simp only [size_alloc, size_setB, size_drew]; omega)) | exact Hb.setSame (by assumption) | refine Hb.set (by first | omega | (simp only [size_alloc, size_setB, size_drew]; omega)) ?_ ))) (Ce.h (by first | assumption | exact ⟨rfl⟩)) ?_
        refine WO_p (PS_move_int rfl) ?_
        refine WO_p (PS_move_int rfl) ?_
        refine WO_p (PS_sub_i64n rfl rfl (by omega) (by omega)) ?_
        refine WO_p (PS_move_int rfl) ?_
        refine WO_p (PS_slG_lh Hvad.runUnderlying32 Hvad.sizeOf5 rfl rfl rfl (by omega) (by omega) (by omega) (by omega)) ?_
        rw [show f.pc + 1 + n - n = f.pc + 1 from by omega, show (f.pc + 1 + n).toNat - (f.pc + 1).toNat = n.toNat from by omega]
        refine WO_p (PS_lenS Hvad.runUnderlying32 rfl) ?_
        refine WO_p (PS_move_int rfl) ?_
        refine WO_nil ?_
        refine thn_normal ?_
        refine W_block ?_
        refine W_loopN (fun k ρ w' => ∃ (i : Nat) (x : Int) (P : Option Addr) (cp : Nat), k + i = n.toNat ∧ (0 ≤ x ∧ x ≤ 18446744073709551615) ∧ (0 < n → P = some ⟨b, (f.pc + 1).toNat, none⟩) ∧ Fr [(0, .pointer (some ⟨C, 0, none⟩)), (2, .pointer (some ⟨C, 1803 + t * 65, none⟩)), (3, .int .i64 n), (5, .int .u64 x), (45, .slice P n.toNat cp), (46, .int .i64 (n.toNat : Int)), (47, .int .i64 i)] ρ ∧ Ext w w') n.toNat ?_ ?_
        · refine ⟨0, 0, slp' (some ⟨b, 0, none⟩) (f.pc + 1).toNat f.code.2.2 1, _, by omega, by omega, ?_, ⟨rfl, rfl, rfl, rfl, rfl, rfl, rfl, trivial⟩, (by repeat (first | assumption | exact Ext.refl _ | refine Ext.alloc ?_ _ | refine Ext.drew ?_ | refine Ext.setB ?_ (by first | omega | (simp only [size_alloc, size_setB, size_drew]; omega)) _ | refine Ext.trans ?_ (by assumption)))⟩
          intro hn1; rw [slp'_some (by omega)]; simp
        intro k ρ w2 hI2
        obtain ⟨i, x, P, cp, hki, hx, hP, hFr, hE2⟩ := hI2
        refine W_env _ hFr ?_
        have hz2 := hE2.1
        refine W_seq ?_
        refine W_region rfl ?_
        refine WO_p (PS_lss rfl rfl) ?_
        refine WO_nil ?_
        refine thn_normal ?_
        refine W_seq ?_
        refine W_if rfl (fun hb11 => ?_) (fun hb11 => ?_)
        · have hb11p := hb11.h; try simp only [al_ete, al_dfn, Bool.not_eq_true', Bool.not_eq_false', al_ne, Bool.not_not, al_nn] at hb11p
          obtain rfl := hP (by omega)
          have hlt : (f.pc + 1).toNat + i < f.cb.length := by omega
          have hcx : Ce r ((f.pc + 1).toNat + i * 1) (.int .u8 (f.cb.getD ((f.pc + 1).toNat + i) 0)) := ⟨by rw [Nat.mul_one, h7 _ (by omega), List.getD_eq_getElem?_getD, List.getElem?_eq_getElem hlt]; rfl⟩
          have hcv := hcby (f.cb.getD ((f.pc + 1).toNat + i) 0) (by rw [List.getD_eq_getElem?_getD, List.getElem?_eq_getElem hlt]; simp)
          refine W_skip ?_
          refine thn_normal ?_
          refine W_seq ?_
          refine W_block ?_
          refine W_seq ?_
          refine W_region rfl ?_
          refine WO_p (PS_indexS Hvad.runUnderlying32 Hvad.sizeOf5 rfl rfl (by omega) (by omega)) ?_
          refine WO_load (.int _ _) Hvad.isAgg5 rfl (Hb.h (by repeat (first | assumption | exact Hb.newY _ _ | refine Hb.alloc ?_ | refine Hb.drew ?_ | refine Hb.ext (by assumption) ?_ | exact Hb.setSameL (by first | omega | (simp only [size_alloc, size_setB, size_drew]; omega)) | exact Hb.setSame (by assumption) | refine Hb.set (by first | omega | (simp only [size_alloc, size_setB, size_drew]; omega)) ?_ ))) (Ce.h (by first | assumption | exact ⟨rfl⟩)) ?_
          refine WO_p (PS_assign_int rfl) ?_
          refine WO_nil ?_
          refine thn_normal ?_
          refine W_region rfl ?_
          refine WO_p (PS_move_int rfl) ?_
          refine WO_p (PS_shl_u64 8 rfl rfl (by decide) rfl) ?_
          refine WO_p (PS_move_int rfl) ?_
          refine WO_p (PS_conv_u64n Hvad.runUnderlying5 Hvad.runUnderlying26 rfl (by omega) (by omega)) ?_
          refine WO_p (PS_or_u64 rfl rfl) ?_
          refine WO_p (PS_assign_int rfl) ?_
          refine WO_nil ?_
          refine inBlk_normal ?_
          refine thn_normal ?_
          refine W_region rfl ?_
          refine WO_p (PS_add_i64n rfl rfl (by omega) (by omega)) ?_
          refine WO_p (PS_move_int rfl) ?_
          refine WO_nil ?_
          refine thn_normal ?_
          refine ⟨k - 1, by omega, i + 1, _, _, _, by omega, bOr_bd _ _, hP, ⟨rfl, rfl, rfl, rfl, rfl, rfl, congrArg (Value.int .i64) (by omega), trivial⟩, (by repeat (first | assumption | exact Ext.refl _ | refine Ext.alloc ?_ _ | refine Ext.drew ?_ | refine Ext.setB ?_ (by first | omega | (simp only [size_alloc, size_setB, size_drew]; omega)) _ | refine Ext.trans ?_ (by assumption)))⟩
        · have hb11p := hb11.h; try simp only [al_ete, al_dfn, Bool.not_eq_true', Bool.not_eq_false', al_ne, Bool.not_not, al_nn] at hb11p
          refine W_exit ?_
          refine thn_exit ?_
          refine thn_exit ?_
          refine inBlk_exit ?_
          refine thn_normal ?_
          refine W_seq ?_
          refine W_region rfl ?_
          refine WO_p (PS_move_ptr rfl) ?_
          refine WO_p (PS_move_ptr rfl) ?_
          refine WO_p (PS_move_int rfl) ?_
          refine WO_p (PS_buildI (k := .u64) (zs := [0, 0, 0, 0]) (ps := [(0, _)]) (L := [_, 0, 0, 0]) Hvad.zeroValue59 Hvad.runUnderlying59 Hvad.sizeOf26 rfl rfl rfl rfl) ?_
          refine WO_p (PS_move_int rfl) ?_
          refine WO_p (PS_add_i64n rfl rfl (by omega) (by omega)) ?_
          refine WO_p (PS_conv_u16n Hvad.runUnderlying3 Hvad.runUnderlying61 rfl (by omega) (by omega)) ?_
          refine WO_call Hvad.call155 (by rfl) (Ret.mono (settle_spec C c v B m t f _ _ _ _ _ (MS.ext hM (by repeat (first | assumption | exact Ext.refl _ | refine Ext.alloc ?_ _ | refine Ext.drew ?_ | refine Ext.setB ?_ (by first | omega | (simp only [size_alloc, size_setB, size_drew]; omega)) _ | exact Ext.trans (by assumption) (by assumption) | refine Ext.trans ?_ (by assumption)))) hA (by omega) (by first | (intro _; omega) | (intro h; cases h)) (by first | assumption | exact argW_wd hM.ty _ _ | exact Wd0 | exact flagW_wd _ | exact Wd1 | exact limb_wd (by omega)) (by omega)) ?_)
          rintro _ wS hRS
          have hRS2 := MRet.pre (w := w) (by repeat (first | assumption | exact Ext.refl _ | refine Ext.alloc ?_ _ | refine Ext.drew ?_ | refine Ext.setB ?_ (by first | omega | (simp only [size_alloc, size_setB, size_drew]; omega)) _ | exact Ext.trans (by assumption) (by assumption) | refine Ext.trans ?_ (by assumption))) hRS
          refine WO_nil ?_
          refine thn_normal ?_
          refine W_ret ?_
          refine thn_ret ?_
          first | refine bodyQ_ret0 Hvad.results213 ?_ | refine bodyQ_end0 Hvad.results213 ?_
          exact ⟨v, _, hRS2, (hI.settle hf hI.rw0 hvi (fun _ h => h) (Int.le_refl _) (by omega) (by first | (intro _; omega) | (intro h; cases h)) (by omega) hc).2⟩
      · have hb9p := hb9.h; try simp only [al_ete, al_dfn, Bool.not_eq_true', Bool.not_eq_false', al_ne, Bool.not_not, al_nn] at hb9p
        refine W_skip ?_
        refine thn_normal ?_
        refine W_seq ?_
        refine W_region rfl ?_
        refine WO_allocG Hvad.zeroValue27 ?_
        intro b8 v8 hg8 hE8 hH8 hl8
        try simp only [size_alloc, size_setB, size_drew] at hg8
        have hzz8 := hE8.1
        try simp only [size_alloc, size_setB, size_drew] at hzz8
        replace hH8 : Hb v8 b8 (.cells (ic .u8 (List.replicate 32 0)) 27 (0, 0)) := hH8
        refine WO_nil ?_
        refine thn_normal ?_
        refine W_seq ?_
        refine W_seq ?_
        refine W_region rfl ?_
        refine WO_p (PS_move_ptr rfl) ?_
        refine WO_p (PS_nilCheck rfl) ?_
        refine WO_p (PS_fieldAddr 4 Hvad.runUnderlying65 rfl Hvad.sizeOf61 rfl rfl) ?_
        refine WO_load (.int _ _) Hvad.isAgg61 rfl (Hb.h (by repeat (first | assumption | exact Hb.newY _ _ | refine Hb.alloc ?_ | refine Hb.drew ?_ | refine Hb.ext (by assumption) ?_ | exact Hb.setSameL (by first | omega | (simp only [size_alloc, size_setB, size_drew]; omega)) | exact Hb.setSame (by assumption) | refine Hb.set (by first | omega | (simp only [size_alloc, size_setB, size_drew]; omega)) ?_ ))) (Ce.h (by first | assumption | exact ⟨rfl⟩)) ?_
        refine WO_p (PS_conv_i64n Hvad.runUnderlying61 Hvad.runUnderlying3 rfl (by omega) (by omega)) ?_
        refine WO_p (PS_add_i64n rfl rfl (by omega) (by omega)) ?_
        refine WO_p (PS_assign_int rfl) ?_
        refine WO_nil ?_
        refine thn_normal ?_
        refine W_seq ?_
        refine W_region rfl ?_
        refine WO_p (PS_move_int rfl) ?_
        refine WO_p (PS_move_ptr rfl) ?_
        refine WO_p (PS_nilCheck rfl) ?_
        refine WO_p (PS_fieldAddr 53 Hvad.runUnderlying65 rfl Hvad.sizeOf32 rfl rfl) ?_
        refine WO_load (.slice _ _ _) Hvad.isAgg32 rfl (Hb.h (by repeat (first | assumption | exact Hb.newY _ _ | refine Hb.alloc ?_ | refine Hb.drew ?_ | refine Hb.ext (by assumption) ?_ | exact Hb.setSameL (by first | omega | (simp only [size_alloc, size_setB, size_drew]; omega)) | exact Hb.setSame (by assumption) | refine Hb.set (by first | omega | (simp only [size_alloc, size_setB, size_drew]; omega)) ?_ ))) (Ce.h (by first | assumption | exact ⟨rfl⟩)) ?_
        refine WO_p (PS_lenS Hvad.runUnderlying32 rfl) ?_
        refine WO_p (PS_lss rfl rfl) ?_
        refine WO_nil ?_
        refine thn_normal ?_
        refine W_if rfl (fun hb14 => ?_) (fun hb14 => ?_)
        · have hb14p := hb14.h; try simp only [al_ete, al_dfn, Bool.not_eq_true', Bool.not_eq_false', al_ne, Bool.not_not, al_nn] at hb14p
          refine W_drawE [false, false, false, false, false, false, false, false, false, false] hmix (by kernel_rfl) rfl ?_
          refine WH_p (PS_move_int rfl) rfl ?_
          refine WH_p (PS_sub_i64n rfl rfl (by omega) (by omega)) rfl ?_
          refine WH_p (PS_slA_l Hvad.runUnderlying27 Hvad.sizeOf5 rfl rfl (by omega) (by omega) (by omega)) rfl ?_
          refine WH_p (PS_move_ptr rfl) rfl ?_
          refine WH_p (PS_nilCheck rfl) rfl ?_
          refine WH_p (PS_fieldAddr 53 Hvad.runUnderlying65 rfl Hvad.sizeOf32 rfl rfl) rfl ?_
          refine WH_load (.slice _ _ _) Hvad.isAgg32 rfl (Hb.h (by repeat (first | assumption | exact Hb.newY _ _ | refine Hb.alloc ?_ | refine Hb.drew ?_ | refine Hb.ext (by assumption) ?_ | exact Hb.setSameL (by first | omega | (simp only [size_alloc, size_setB, size_drew]; omega)) | exact Hb.setSame (by assumption) | refine Hb.set (by first | omega | (simp only [size_alloc, size_setB, size_drew]; omega)) ?_ ))) (Ce.h (by first | assumption | exact ⟨rfl⟩)) ?_
          refine WH_p (PS_move_int rfl) rfl ?_
          refine WH_p (PS_slG_l Hvad.runUnderlying32 Hvad.sizeOf5 rfl rfl (by omega) (by omega)) rfl ?_
          refine WH_copyT (b2 := 0) (b := b8) (o := 0 + (32 - n).toNat * 1) Hvad.runUnderlying32 Hvad.sizeOf5 rfl rfl (fun _ => rfl) (Hb.drew hH8) (by simp; omega) (SC.tail (SC.ext hsc (by repeat (first | assumption | exact Ext.refl _ | refine Ext.alloc ?_ _ | refine Ext.drew ?_ | refine Ext.setB ?_ (by first | omega | (simp only [size_alloc, size_setB, size_drew]; omega)) _ | exact Ext.trans (by assumption) (by assumption) | refine Ext.trans ?_ (by assumption)))) (f.pc + 1).toNat (by simp; omega) (by simp; omega)) (fun z hz => hcby z (List.mem_of_mem_drop hz)) (by omega) ?_
          intro w4 L4 hT4
          refine ⟨(fun h => by cases h), ?_⟩
          have hC4 := hT4.hb
          have hL4 : By L4 32 := ⟨by rw [hT4.len]; simp, hT4.ty (by_zero 32)⟩
          have hX4 : Ext w w4 := hT4.ext (by repeat (first | assumption | exact Ext.refl _ | refine Ext.alloc ?_ _ | refine Ext.drew ?_ | refine Ext.setB ?_ (by first | omega | (simp only [size_alloc, size_setB, size_drew]; omega)) _ | exact Ext.trans (by assumption) (by assumption) | refine Ext.trans ?_ (by assumption))) (by omega)
          have hzX4 := hX4.1
          have hl4 := hL4.1
          refine WH_nil ?_
          refine thn_normal ?_
          refine W_region rfl ?_
          refine WO_p (PS_move_ptr rfl) ?_
          refine WO_p (PS_move_ptr rfl) ?_
          refine WO_loadA _ Hvad.isAgg27 Hvad.sizeOf27 rfl (Hb.h (by repeat (first | assumption | exact Hb.newY _ _ | refine Hb.alloc ?_ | refine Hb.drew ?_ | refine Hb.ext (by assumption) ?_ | exact Hb.setSameL (by first | omega | (simp only [size_alloc, size_setB, size_drew]; omega)) | exact Hb.setSame (by assumption) | refine Hb.set (by first | omega | (simp only [size_alloc, size_setB, size_drew]; omega)) ?_ ))) (by first | omega | assumption | rfl | decide | exact Nat.le_refl _ | (simp only [size_ic, Value.cells]; omega) | simp) (Xt.h (by first | assumption | exact Xt.whole rfl rfl | exact Xt.whole rfl (by simp only [size_ic, Value.cells]; omega) | exact ⟨rfl⟩)) ?_
          refine WO_call Hvad.call39 (by rfl) (Ret.mono (fromBytes_spec _ _ (by assumption)) ?_)
          rintro _ w39_14 ⟨rfl, hE39_14⟩
          have hz39_14 := hE39_14.1
          try simp only [size_alloc, size_setB, size_drew] at hz39_14
          have hff := fromB_wd hL4.2
          have hff1 := hff.1
          refine WO_p (PS_move_int rfl) ?_
          refine WO_p (PS_add_i64n rfl rfl (by omega) (by omega)) ?_
          refine WO_p (PS_conv_u16n Hvad.runUnderlying3 Hvad.runUnderlying61 rfl (by omega) (by omega)) ?_
          refine WO_call Hvad.call155 (by rfl) (Ret.mono (settle_spec C c v B m t f _ _ _ _ _ (MS.ext hM (by repeat (first | assumption | exact Ext.refl _ | refine Ext.alloc ?_ _ | refine Ext.drew ?_ | refine Ext.setB ?_ (by first | omega | (simp only [size_alloc, size_setB, size_drew]; omega)) _ | exact Ext.trans (by assumption) (by assumption) | refine Ext.trans ?_ (by assumption)))) hA (by omega) (by first | (intro _; omega) | (intro h; cases h)) (by first | assumption | exact argW_wd hM.ty _ _ | exact Wd0 | exact flagW_wd _ | exact Wd1 | exact limb_wd (by omega)) (by omega)) ?_)
          rintro _ wS hRS
          have hRS2 := MRet.pre (w := w) (by repeat (first | assumption | exact Ext.refl _ | refine Ext.alloc ?_ _ | refine Ext.drew ?_ | refine Ext.setB ?_ (by first | omega | (simp only [size_alloc, size_setB, size_drew]; omega)) _ | exact Ext.trans (by assumption) (by assumption) | refine Ext.trans ?_ (by assumption))) hRS
          refine WO_nil ?_
          first | refine bodyQ_ret0 Hvad.results213 ?_ | refine bodyQ_end0 Hvad.results213 ?_
          exact ⟨v, _, hRS2, (hI.settle hf hI.rw0 hvi (fun _ h => h) (Int.le_refl _) (by omega) (by first | (intro _; omega) | (intro h; cases h)) (by omega) hc).2⟩
        · have hb14p := hb14.h; try simp only [al_ete, al_dfn, Bool.not_eq_true', Bool.not_eq_false', al_ne, Bool.not_not, al_nn] at hb14p
          have hL4 : By (List.replicate 32 (0 : Int)) 32 := ⟨by simp, by_zero 32⟩
          have hC4 := hH8
          have hl4 := hL4.1
          refine W_skip ?_
          refine thn_normal ?_
          refine W_region rfl ?_
          refine WO_p (PS_move_ptr rfl) ?_
          refine WO_p (PS_move_ptr rfl) ?_
          refine WO_loadA _ Hvad.isAgg27 Hvad.sizeOf27 rfl (Hb.h (by repeat (first | assumption | exact Hb.newY _ _ | refine Hb.alloc ?_ | refine Hb.drew ?_ | refine Hb.ext (by assumption) ?_ | exact Hb.setSameL (by first | omega | (simp only [size_alloc, size_setB, size_drew]; omega)) | exact Hb.setSame (by assumption) | refine Hb.set (by first | omega | (simp only [size_alloc, size_setB, size_drew]; omega)) ?_ ))) (by first | omega | assumption | rfl | decide | exact Nat.le_refl _ | (simp only [size_ic, Value.cells]; omega) | simp) (Xt.h (by first | assumption | exact Xt.whole rfl rfl | exact Xt.whole rfl (by simp only [size_ic, Value.cells]; omega) | exact ⟨rfl⟩)) ?_
          refine WO_call Hvad.call39 (by rfl) (Ret.mono (fromBytes_spec _ _ (by assumption)) ?_)
          rintro _ w39_16 ⟨rfl, hE39_16⟩
          have hz39_16 := hE39_16.1
          try simp only [size_alloc, size_setB, size_drew] at hz39_16
          have hff := fromB_wd hL4.2
          have hff1 := hff.1
          refine WO_p (PS_move_int rfl) ?_
          refine WO_p (PS_add_i64n rfl rfl (by omega) (by omega)) ?_
          refine WO_p (PS_conv_u16n Hvad.runUnderlying3 Hvad.runUnderlying61 rfl (by omega) (by omega)) ?_
          refine WO_call Hvad.call155 (by rfl) (Ret.mono (settle_spec C c v B m t f _ _ _ _ _ (MS.ext hM (by repeat (first | assumption | exact Ext.refl _ | refine Ext.alloc ?_ _ | refine Ext.drew ?_ | refine Ext.setB ?_ (by first | omega | (simp only [size_alloc, size_setB, size_drew]; omega)) _ | exact Ext.trans (by assumption) (by assumption) | refine Ext.trans ?_ (by assumption)))) hA (by omega) (by first | (intro _; omega) | (intro h; cases h)) (by first | assumption | exact argW_wd hM.ty _ _ | exact Wd0 | exact flagW_wd _ | exact Wd1 | exact limb_wd (by omega)) (by omega)) ?_)
          rintro _ wS hRS
          have hRS2 := MRet.pre (w := w) (by repeat (first | assumption | exact Ext.refl _ | refine Ext.alloc ?_ _ | refine Ext.drew ?_ | refine Ext.setB ?_ (by first | omega | (simp only [size_alloc, size_setB, size_drew]; omega)) _ | exact Ext.trans (by assumption) (by assumption) | refine Ext.trans ?_ (by assumption))) hRS
          refine WO_nil ?_
          first | refine bodyQ_ret0 Hvad.results213 ?_ | refine bodyQ_end0 Hvad.results213 ?_
          exact ⟨v, _, hRS2, (hI.settle hf hI.rw0 hvi (fun _ h => h) (Int.le_refl _) (by omega) (by first | (intro _; omega) | (intro h; cases h)) (by omega) hc).2⟩
    · have hb7p := hb7.h; try simp only [al_ete, al_dfn, Bool.not_eq_true', Bool.not_eq_false', al_ne, Bool.not_not, al_nn] at hb7p
      refine WO_guardF rfl rfl hb7.h ?_
      refine WO_guardF rfl rfl hb7.h ?_
      refine WO_guardF rfl rfl hb7.h ?_
      refine WO_guardF rfl rfl hb7.h ?_
      refine WO_guardF rfl rfl hb7.h ?_
      refine WO_guardF rfl rfl hb7.h ?_
      refine WO_guardF rfl rfl hb7.h ?_
      refine WO_p (PS_pickF rfl hb7.h rfl) ?_
      refine WO_nil ?_
      refine thn_normal ?_
      refine W_condF rfl rfl ?_
      refine W_skip ?_
      refine thn_normal ?_
      refine W_seq ?_
      refine W_region rfl ?_
      refine WO_allocG Hvad.zeroValue27 ?_
      intro b8 v8 hg8 hE8 hH8 hl8
      try simp only [size_alloc, size_setB, size_drew] at hg8
      have hzz8 := hE8.1
      try simp only [size_alloc, size_setB, size_drew] at hzz8
      replace hH8 : Hb v8 b8 (.cells (ic .u8 (List.replicate 32 0)) 27 (0, 0)) := hH8
      refine WO_nil ?_
      refine thn_normal ?_
      refine W_seq ?_
      refine W_seq ?_
      refine W_region rfl ?_
      refine WO_p (PS_move_ptr rfl) ?_
      refine WO_p (PS_nilCheck rfl) ?_
      refine WO_p (PS_fieldAddr 4 Hvad.runUnderlying65 rfl Hvad.sizeOf61 rfl rfl) ?_
      refine WO_load (.int _ _) Hvad.isAgg61 rfl (Hb.h (by repeat (first | assumption | exact Hb.newY _ _ | refine Hb.alloc ?_ | refine Hb.drew ?_ | refine Hb.ext (by assumption) ?_ | exact Hb.setSameL (by first | omega | (simp only [size_alloc, size_setB, size_drew]; omega)) | exact Hb.setSame (by assumption) | refine Hb.set (by first | omega | (simp only [size_alloc, size_setB, size_drew]; omega)) ?_ ))) (Ce.h (by first | assumption | exact ⟨rfl⟩)) ?_
      refine WO_p (PS_conv_i64n Hvad.runUnderlying61 Hvad.runUnderlying3 rfl (by omega) (by omega)) ?_
      refine WO_p (PS_add_i64n rfl rfl (by omega) (by omega)) ?_
      refine WO_p (PS_assign_int rfl) ?_
      refine WO_nil ?_
      refine thn_normal ?_
      refine W_seq ?_
      refine W_region rfl ?_
      refine WO_p (PS_move_int rfl) ?_
      refine WO_p (PS_move_ptr rfl) ?_
      refine WO_p (PS_nilCheck rfl) ?_
      refine WO_p (PS_fieldAddr 53 Hvad.runUnderlying65 rfl Hvad.sizeOf32 rfl rfl) ?_
      refine WO_load (.slice _ _ _) Hvad.isAgg32 rfl (Hb.h (by repeat (first | assumption | exact Hb.newY _ _ | refine Hb.alloc ?_ | refine Hb.drew ?_ | refine Hb.ext (by assumption) ?_ | exact Hb.setSameL (by first | omega | (simp only [size_alloc, size_setB, size_drew]; omega)) | exact Hb.setSame (by assumption) | refine Hb.set (by first | omega | (simp only [size_alloc, size_setB, size_drew]; omega)) ?_ ))) (Ce.h (by first | assumption | exact ⟨rfl⟩)) ?_
      refine WO_p (PS_lenS Hvad.runUnderlying32 rfl) ?_
      refine WO_p (PS_lss rfl rfl) ?_
      refine WO_nil ?_
      refine thn_normal ?_
      refine W_if rfl (fun hb20 => ?_) (fun hb20 => ?_)
      · have hb20p := hb20.h; try simp only [al_ete, al_dfn, Bool.not_eq_true', Bool.not_eq_false', al_ne, Bool.not_not, al_nn] at hb20p
        refine W_drawE [false, false, false, false, false, false, false, false, false, false] hmix (by kernel_rfl) rfl ?_
        refine WH_p (PS_move_int rfl) rfl ?_
        refine WH_p (PS_sub_i64n rfl rfl (by omega) (by omega)) rfl ?_
        refine WH_p (PS_slA_l Hvad.runUnderlying27 Hvad.sizeOf5 rfl rfl (by omega) (by omega) (by omega)) rfl ?_
        refine WH_p (PS_move_ptr rfl) rfl ?_
        refine WH_p (PS_nilCheck rfl) rfl ?_
        refine WH_p (PS_fieldAddr 53 Hvad.runUnderlying65 rfl Hvad.sizeOf32 rfl rfl) rfl ?_
        refine WH_load (.slice _ _ _) Hvad.isAgg32 rfl (Hb.h (by repeat (first | assumption | exact Hb.newY _ _ | refine Hb.alloc ?_ | refine Hb.drew ?_ | refine Hb.ext (by assumption) ?_ | exact Hb.setSameL (by first | omega | (simp only [size_alloc, size_setB, size_drew]; omega)) | exact Hb.setSame (by assumption) | refine Hb.set (by first | omega | (simp only [size_alloc, size_setB, size_drew]; omega)) ?_ ))) (Ce.h (by first | assumption | exact ⟨rfl⟩)) ?_
        refine WH_p (PS_move_int rfl) rfl ?_
        refine WH_p (PS_slG_l Hvad.runUnderlying32 Hvad.sizeOf5 rfl rfl (by omega) (by omega)) rfl ?_
        refine WH_copyT (b2 := 0) (b := b8) (o := 0 + (32 - n).toNat * 1) Hvad.runUnderlying32 Hvad.sizeOf5 rfl rfl (fun _ => rfl) (Hb.drew hH8) (by simp; omega) (SC.tail (SC.ext hsc (by repeat (first | assumption | exact Ext.refl _ | refine Ext.alloc ?_ _ | refine Ext.drew ?_ | refine Ext.setB ?_ (by first | omega | (simp only [size_alloc, size_setB, size_drew]; omega)) _ | exact Ext.trans (by assumption) (by assumption) | refine Ext.trans ?_ (by assumption)))) (f.pc + 1).toNat (by simp; omega) (by simp; omega)) (fun z hz => hcby z (List.mem_of_mem_drop hz)) (by omega) ?_
        intro w4 L4 hT4
        refine ⟨(fun h => by cases h), ?_⟩
        have hC4 := hT4.hb
        have hL4 : By L4 32 := ⟨by rw [hT4.len]; simp, hT4.ty (by_zero 32)⟩
        have hX4 : Ext w w4 := hT4.ext (by repeat (first | assumption | exact Ext.refl _ | refine Ext.alloc ?_ _ | refine Ext.drew ?_ | refine Ext.setB ?_ (by first | omega | (simp only [size_alloc, size_setB, size_drew]; omega)) _ | exact Ext.trans (by assumption) (by assumption) | refine Ext.trans ?_ (by assumption))) (by omega)
        have hzX4 := hX4.1
        have hl4 := hL4.1
        refine WH_nil ?_
        refine thn_normal ?_
        refine W_region rfl ?_
        refine WO_p (PS_move_ptr rfl) ?_
        refine WO_p (PS_move_ptr rfl) ?_
        refine WO_loadA _ Hvad.isAgg27 Hvad.sizeOf27 rfl (Hb.h (by repeat (first | assumption | exact Hb.newY _ _ | refine Hb.alloc ?_ | refine Hb.drew ?_ | refine Hb.ext (by assumption) ?_ | exact Hb.setSameL (by first | omega | (simp only [size_alloc, size_setB, size_drew]; omega)) | exact Hb.setSame (by assumption) | refine Hb.set (by first | omega | (simp only [size_alloc, size_setB, size_drew]; omega)) ?_ ))) (by first | omega | assumption | rfl | decide | exact Nat.le_refl _ | (simp only [size_ic, Value.cells]; omega) | simp) (Xt.h (by first | assumption | exact Xt.whole rfl rfl | exact Xt.whole rfl (by simp only [size_ic, Value.cells]; omega) | exact ⟨rfl⟩)) ?_
        refine WO_call Hvad.call39 (by rfl) (Ret.mono (fromBytes_spec _ _ (by assumption)) ?_)
        rintro _ w39_20 ⟨rfl, hE39_20⟩
        have hz39_20 := hE39_20.1
        try simp only [size_alloc, size_setB, size_drew] at hz39_20
        have hff := fromB_wd hL4.2
        have hff1 := hff.1
        refine WO_p (PS_move_int rfl) ?_
        refine WO_p (PS_add_i64n rfl rfl (by omega) (by omega)) ?_
        refine WO_p (PS_conv_u16n Hvad.runUnderlying3 Hvad.runUnderlying61 rfl (by omega) (by omega)) ?_
        refine WO_call Hvad.call155 (by rfl) (Ret.mono (settle_spec C c v B m t f _ _ _ _ _ (MS.ext hM (by repeat (first | assumption | exact Ext.refl _ | refine Ext.alloc ?_ _ | refine Ext.drew ?_ | refine Ext.setB ?_ (by first | omega | (simp only [size_alloc, size_setB, size_drew]; omega)) _ | exact Ext.trans (by assumption) (by assumption) | refine Ext.trans ?_ (by assumption)))) hA (by omega) (by first | (intro _; omega) | (intro h; cases h)) (by first | assumption | exact argW_wd hM.ty _ _ | exact Wd0 | exact flagW_wd _ | exact Wd1 | exact limb_wd (by omega)) (by omega)) ?_)
        rintro _ wS hRS
        have hRS2 := MRet.pre (w := w) (by repeat (first | assumption | exact Ext.refl _ | refine Ext.alloc ?_ _ | refine Ext.drew ?_ | refine Ext.setB ?_ (by first | omega | (simp only [size_alloc, size_setB, size_drew]; omega)) _ | exact Ext.trans (by assumption) (by assumption) | refine Ext.trans ?_ (by assumption))) hRS
        refine WO_nil ?_
        first | refine bodyQ_ret0 Hvad.results213 ?_ | refine bodyQ_end0 Hvad.results213 ?_
        exact ⟨v, _, hRS2, (hI.settle hf hI.rw0 hvi (fun _ h => h) (Int.le_refl _) (by omega) (by first | (intro _; omega) | (intro h; cases h)) (by omega) hc).2⟩
      · have hb20p := hb20.h; try simp only [al_ete, al_dfn, Bool.not_eq_true', Bool.not_eq_false', al_ne, Bool.not_not, al_nn] at hb20p
        have hL4 : By (List.replicate 32 (0 : Int)) 32 := ⟨by simp, by_zero 32⟩
        have hC4 := hH8
        have hl4 := hL4.1
        refine W_skip ?_
        refine thn_normal ?_
        refine W_region rfl ?_
        refine WO_p (PS_move_ptr rfl) ?_
        refine WO_p (PS_move_ptr rfl) ?_
        refine WO_loadA _ Hvad.isAgg27 Hvad.sizeOf27 rfl (Hb.h (by repeat (first | assumption | exact Hb.newY _ _ | refine Hb.alloc ?_ | refine Hb.drew ?_ | refine Hb.ext (by assumption) ?_ | exact Hb.setSameL (by first | omega | (simp only [size_alloc, size_setB, size_drew]; omega)) | exact Hb.setSame (by assumption) | refine Hb.set (by first | omega | (simp only [size_alloc, size_setB, size_drew]; omega)) ?_ ))) (by first | omega | assumption | rfl | decide | exact Nat.le_refl _ | (simp only [size_ic, Value.cells]; omega) | simp) (Xt.h (by first | assumption | exact Xt.whole rfl rfl | exact Xt.whole rfl (by simp only [size_ic, Value.cells]; omega) | exact ⟨rfl⟩)) ?_
        refine WO_call Hvad.call39 (by rfl) (Ret.mono (fromBytes_spec _ _ (by assumption)) ?_)
        rintro _ w39_22 ⟨rfl, hE39_22⟩
        have hz39_22 := hE39_22.1
        try simp only [size_alloc, size_setB, size_drew] at hz39_22
        have hff := fromB_wd hL4.2
        have hff1 := hff.1
        refine WO_p (PS_move_int rfl) ?_
        refine WO_p (PS_add_i64n rfl rfl (by omega) (by omega)) ?_
        refine WO_p (PS_conv_u16n Hvad.runUnderlying3 Hvad.runUnderlying61 rfl (by omega) (by omega)) ?_
        refine WO_call Hvad.call155 (by rfl) (Ret.mono (settle_spec C c v B m t f _ _ _ _ _ (MS.ext hM (by repeat (first | assumption | exact Ext.refl _ | refine Ext.alloc ?_ _ | refine Ext.drew ?_ | refine Ext.setB ?_ (by first | omega | (simp only [size_alloc, size_setB, size_drew]; omega)) _ | exact Ext.trans (by assumption) (by assumption) | refine Ext.trans ?_ (by assumption)))) hA (by omega) (by first | (intro _; omega) | (intro h; cases h)) (by first | assumption | exact argW_wd hM.ty _ _ | exact Wd0 | exact flagW_wd _ | exact Wd1 | exact limb_wd (by omega)) (by omega)) ?_)
        rintro _ wS hRS
        have hRS2 := MRet.pre (w := w) (by repeat (first | assumption | exact Ext.refl _ | refine Ext.alloc ?_ _ | refine Ext.drew ?_ | refine Ext.setB ?_ (by first | omega | (simp only [size_alloc, size_setB, size_drew]; omega)) _ | exact Ext.trans (by assumption) (by assumption) | refine Ext.trans ?_ (by assumption))) hRS
        refine WO_nil ?_
        first | refine bodyQ_ret0 Hvad.results213 ?_ | refine bodyQ_end0 Hvad.results213 ?_
        exact ⟨v, _, hRS2, (hI.settle hf hI.rw0 hvi (fun _ h => h) (Int.le_refl _) (by omega) (by first | (intro _; omega) | (intro h; cases h)) (by omega) hc).2⟩

end Go.Proofs.YgvadwGreat
