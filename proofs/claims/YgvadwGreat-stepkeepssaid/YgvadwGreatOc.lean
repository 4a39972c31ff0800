import Derived.Test.YgvadwGreatOb
namespace Go.Proofs.YgvadwGreat
set_option linter.unusedSimpArgs false
set_option linter.unusedVariables false
/-- a word of a local box is set -/
theorem MS.loc {w : World} {C : Nat} {c : Array Value} {v : V} {B : VB} {m : Mc} (h : MS w C c v B m) {b : Nat} {x y : Array Value} (hb : Hb w b (.cells x 59 (0, 0))) : MS (setB w b (.cells y 59 (0, 0))) C c v B m := by
  have hv := h.vs
  have hk : ∀ T, T ≠ 59 → KT T w (setB w b (.cells y 59 (0, 0))) := fun T hT => KT.setB hb hT
  refine h.kt ⟨hk 86 (by decide) _ _ _ hv.blk, hv.rep, { accts := hv.rows.accts.kt (hk _ (by decide)), slots := hv.rows.slots.kt (hk _ (by decide)), journal := hv.rows.journal.kt (hk _ (by decide)), logs := hv.rows.logs.kt (hk _ (by decide)), temps := hv.rows.temps.kt (hk _ (by decide)), ttab := hv.rows.ttab.kt (hk _ (by decide)) }, hv.ty, fun x hx => (hv.codes x hx).kt (hk _ (by decide)), fun x hx => (hv.olds x hx).kt (hk _ (by decide))⟩ h.rep (hk _ (by decide)) (hk _ (by decide))
theorem MStep.loc {w w1 : World} {C : Nat} {B B1 : VB} {m m1 : Mc} (h : MStep w w1 C B m B1 m1) {b : Nat} (hb : w.heap.size ≤ b) (o : Obj) : MStep w (setB w1 b o) C B m B1 m1 :=
  ⟨h.keep.setB (fun hx => by omega) o, h.own⟩
theorem source_nat {W : List Int} (hW : Wd W) : sourceW W = ((sourceW W).toNat : Int) := by
  have := wv_bd hW
  unfold sourceW; split <;> omega

set_option maxRecDepth 10000 in
set_option maxHeartbeats 4000000 in
theorem opCopy_spec (scan : List Int → List Int) (C : Nat) (c : Array Value) (v : V) (B : VB) (m : Mc) (t : Nat) (f : Fm) (o c' S : Int) (w : World) (hM : MS w C c v B m) (hop : Mc.opc f = o) (hAd : Adm scan v m t f o (infoW o).2.2.1 c' S) (hk : (infoW o).1 ≤ f.sp ∧ f.sp - (infoW o).1 + (infoW o).2.1 ≤ 64) (hc : 0 < c') (ho : o = 55 ∨ o = 57 ∨ o = 62 ∨ o = 60 ∨ o = 94) : Ret Hvad.prog 103 #[.pointer (some ⟨C, 0, none⟩)] w fun _ w' => ∃ v' m', MRet w C B m w' v' m' ∧ OpP scan m t c' S v' m' := by
  have hI := hAd.ri
  have hf := hAd.fr
  have hR := hI.run hf
  have hA := hR.fa
  have hblk := hM.vs.blk
  have hCl := hblk.lt
  have hcs := hM.sz
  have hc_s := hM.rep.s
  obtain ⟨ht7, hfty, hF⟩ := hM.openF hf
  have hFk := hI.fr t f (Nat.le_refl _) hf
  have hvi := hI.ti.vi
  have hcbl := (hM.code f (List.mem_of_getElem? hf)).1.len
  have hcb5 := hFk.cl
  have hcl : f.code.2.1 ≤ 100000 := by omega
  have hpct := hfty.pc
  have hspt := hfty.sp
  have hwdA := fun i => argW_wd hM.ty f i
  have hpcl : f.pc < (f.cb.length : Int) := opc_pc (by rw [hop]; omega)
  obtain ⟨lo, n, hlo, hhi, hszn, hlon, hn32⟩ := hI.mem hM.ty (i := t) (Nat.le_refl _)
  have hbl0 := hI.ti.bl
  have hT : MemT m t lo n := ⟨hI.mtY, by omega, hlo, hhi, hlon, by omega⟩
  have hbsI : BS w (bb m) f.inputY := (hM.code f (List.mem_of_getElem? hf)).2
  have hbsC : BS w (bb m) f.code := (hM.code f (List.mem_of_getElem? hf)).1.bs
  have hbsR := hM.ret
  have hil := hFk.il
  have hccc := hFk.cc
  have hrt := hI.ti.rt
  have hf_input := hF.inputY
  have hf_code := hF.code
  have hc_ret := hM.rep.ret
  have hw0 := wv_bd (hwdA 0)
  have hw1 := wv_bd (hwdA 1)
  have hw2 := wv_bd (hwdA 2)
  have hw3 := wv_bd (hwdA 3)
  have hl0 := (hwdA 0).1
  have hl1 := (hwdA 1).1
  have hl2 := (hwdA 2).1
  have hl3 := (hwdA 3).1
  
  refine Ret_of_W Hvad.func103 rfl rfl ?_
  refine W_seq ?_
  refine W_region rfl ?_
  refine WO_p (PS_move_ptr rfl) ?_
  refine WO_call Hvad.call91 (by rfl) (Ret.mono (running_spec C c v B m t f _ (MS.ext hM (by repeat (first | assumption | exact Ext.refl _ | refine Ext.alloc ?_ _ | refine Ext.drew ?_ | refine Ext.setB ?_ (by first | omega | (simp only [size_alloc, size_setB, size_drew]; omega)) _ | exact Ext.trans (by assumption) (by assumption) | refine Ext.trans ?_ (by assumption)))) hR) ?_)
  rintro _ w91_0 ⟨hE91_0, rfl⟩
  have hz91_0 := hE91_0.1
  try simp only [size_alloc, size_setB, size_drew] at hz91_0
  refine WO_p (PS_assign_ptr rfl) ?_
  refine WO_nil ?_
  refine thn_normal ?_
  refine W_seq ?_
  refine W_seq ?_
  refine W_region rfl ?_
  refine WO_p (PS_move_ptr rfl) ?_
  refine WO_p (PS_eqlnil Hvad.underlying182 rfl) ?_
  refine WO_nil ?_
  refine thn_normal ?_
  refine W_if rfl (fun hb3 => ?_) (fun hb3 => ?_)
  · have hb3p := hb3.h; try simp only [al_ete, al_dfn, Bool.not_eq_true', Bool.not_eq_false', al_ne, Bool.not_not, al_nn] at hb3p
    simp at hb3p --END
  · have hb3p := hb3.h; try simp only [al_ete, al_dfn, Bool.not_eq_true', Bool.not_eq_false', al_ne, Bool.not_not, al_nn] at hb3p
    refine W_skip ?_
    refine thn_normal ?_
    refine W_seq ?_
    refine W_region rfl ?_
    refine WO_p (PS_move_ptr rfl) ?_
    refine WO_p (PS_move_ptr rfl) ?_
    refine WO_call Hvad.call160 (by rfl) (Ret.mono (arg_spec C c v B m t f _ _ (MS.ext hM (by repeat (first | assumption | exact Ext.refl _ | refine Ext.alloc ?_ _ | refine Ext.drew ?_ | refine Ext.setB ?_ (by first | omega | (simp only [size_alloc, size_setB, size_drew]; omega)) _ | exact Ext.trans (by assumption) (by assumption) | refine Ext.trans ?_ (by assumption)))) hA (by omega)) ?_)
    rintro _ w160_3 ⟨hE160_3, rfl⟩
    have hz160_3 := hE160_3.1
    try simp only [size_alloc, size_setB, size_drew] at hz160_3
    refine WO_allocG Hvad.zeroValue59 ?_
    intro b3 v3 hg3 hE3 hH3 hl3
    try simp only [size_alloc, size_setB, size_drew] at hg3
    have hzz3 := hE3.1
    try simp only [size_alloc, size_setB, size_drew] at hzz3
    replace hH3 : Hb v3 b3 (.cells (ic .u64 [0, 0, 0, 0]) 59 (0, 0)) := hH3
    first | refine WO_storeW Hvad.sizeOf59 rfl (v := .agg _) rfl (Hb.h (by repeat (first | assumption | exact Hb.newY _ _ | refine Hb.alloc ?_ | refine Hb.drew ?_ | refine Hb.ext (by assumption) ?_ | exact Hb.setSameL (by first | omega | (simp only [size_alloc, size_setB, size_drew]; omega)) | exact Hb.setSame (by assumption) | refine Hb.set (by first | omega | (simp only [size_alloc, size_setB, size_drew]; omega)) ?_ ))) rfl (by first | omega | assumption | rfl | decide | exact Nat.le_refl _ | (simp only [size_ic, Value.cells]; omega) | simp) (by first | omega | assumption | rfl | decide | exact Nat.le_refl _ | (simp only [size_ic, Value.cells]; omega) | simp) (by first | exact oneCell_ic | assumption) ?_ | refine WO_store Hvad.sizeOf59 rfl (v := .agg _) rfl (Hb.h (by repeat (first | assumption | exact Hb.newY _ _ | refine Hb.alloc ?_ | refine Hb.drew ?_ | refine Hb.ext (by assumption) ?_ | exact Hb.setSameL (by first | omega | (simp only [size_alloc, size_setB, size_drew]; omega)) | exact Hb.setSame (by assumption) | refine Hb.set (by first | omega | (simp only [size_alloc, size_setB, size_drew]; omega)) ?_ ))) (by first | omega | assumption | rfl | decide | exact Nat.le_refl _ | (simp only [size_ic, Value.cells]; omega) | simp) (by first | omega | assumption | rfl | decide | exact Nat.le_refl _ | (simp only [size_ic, Value.cells]; omega) | simp) (by first | exact oneCell_ic | assumption) ?_
    refine WO_nil ?_
    refine thn_normal ?_
    refine W_seq ?_
    refine W_region rfl ?_
    refine WO_p (PS_move_ptr rfl) ?_
    refine WO_p (PS_move_ptr rfl) ?_
    refine WO_call Hvad.call160 (by rfl) (Ret.mono (arg_spec C c v B m t f _ _ (MS.ext hM (by repeat (first | assumption | exact Ext.refl _ | refine Ext.alloc ?_ _ | refine Ext.drew ?_ | refine Ext.setB ?_ (by first | omega | (simp only [size_alloc, size_setB, size_drew]; omega)) _ | exact Ext.trans (by assumption) (by assumption) | refine Ext.trans ?_ (by assumption)))) hA (by omega)) ?_)
    rintro _ w160_4 ⟨hE160_4, rfl⟩
    have hz160_4 := hE160_4.1
    try simp only [size_alloc, size_setB, size_drew] at hz160_4
    refine WO_allocG Hvad.zeroValue59 ?_
    intro b4 v4 hg4 hE4 hH4 hl4
    try simp only [size_alloc, size_setB, size_drew] at hg4
    have hzz4 := hE4.1
    try simp only [size_alloc, size_setB, size_drew] at hzz4
    replace hH4 : Hb v4 b4 (.cells (ic .u64 [0, 0, 0, 0]) 59 (0, 0)) := hH4
    first | refine WO_storeW Hvad.sizeOf59 rfl (v := .agg _) rfl (Hb.h (by repeat (first | assumption | exact Hb.newY _ _ | refine Hb.alloc ?_ | refine Hb.drew ?_ | refine Hb.ext (by assumption) ?_ | exact Hb.setSameL (by first | omega | (simp only [size_alloc, size_setB, size_drew]; omega)) | exact Hb.setSame (by assumption) | refine Hb.set (by first | omega | (simp only [size_alloc, size_setB, size_drew]; omega)) ?_ ))) rfl (by first | omega | assumption | rfl | decide | exact Nat.le_refl _ | (simp only [size_ic, Value.cells]; omega) | simp) (by first | omega | assumption | rfl | decide | exact Nat.le_refl _ | (simp only [size_ic, Value.cells]; omega) | simp) (by first | exact oneCell_ic | assumption) ?_ | refine WO_store Hvad.sizeOf59 rfl (v := .agg _) rfl (Hb.h (by repeat (first | assumption | exact Hb.newY _ _ | refine Hb.alloc ?_ | refine Hb.drew ?_ | refine Hb.ext (by assumption) ?_ | exact Hb.setSameL (by first | omega | (simp only [size_alloc, size_setB, size_drew]; omega)) | exact Hb.setSame (by assumption) | refine Hb.set (by first | omega | (simp only [size_alloc, size_setB, size_drew]; omega)) ?_ ))) (by first | omega | assumption | rfl | decide | exact Nat.le_refl _ | (simp only [size_ic, Value.cells]; omega) | simp) (by first | omega | assumption | rfl | decide | exact Nat.le_refl _ | (simp only [size_ic, Value.cells]; omega) | simp) (by first | exact oneCell_ic | assumption) ?_
    refine WO_nil ?_
    refine thn_normal ?_
    refine W_seq ?_
    refine W_region rfl ?_
    refine WO_p (PS_move_ptr rfl) ?_
    refine WO_p (PS_move_ptr rfl) ?_
    refine WO_call Hvad.call160 (by rfl) (Ret.mono (arg_spec C c v B m t f _ _ (MS.ext hM (by repeat (first | assumption | exact Ext.refl _ | refine Ext.alloc ?_ _ | refine Ext.drew ?_ | refine Ext.setB ?_ (by first | omega | (simp only [size_alloc, size_setB, size_drew]; omega)) _ | exact Ext.trans (by assumption) (by assumption) | refine Ext.trans ?_ (by assumption)))) hA (by omega)) ?_)
    rintro _ w160_5 ⟨hE160_5, rfl⟩
    have hz160_5 := hE160_5.1
    try simp only [size_alloc, size_setB, size_drew] at hz160_5
    refine WO_allocG Hvad.zeroValue59 ?_
    intro b5 v5 hg5 hE5 hH5 hl5
    try simp only [size_alloc, size_setB, size_drew] at hg5
    have hzz5 := hE5.1
    try simp only [size_alloc, size_setB, size_drew] at hzz5
    replace hH5 : Hb v5 b5 (.cells (ic .u64 [0, 0, 0, 0]) 59 (0, 0)) := hH5
    first | refine WO_storeW Hvad.sizeOf59 rfl (v := .agg _) rfl (Hb.h (by repeat (first | assumption | exact Hb.newY _ _ | refine Hb.alloc ?_ | refine Hb.drew ?_ | refine Hb.ext (by assumption) ?_ | exact Hb.setSameL (by first | omega | (simp only [size_alloc, size_setB, size_drew]; omega)) | exact Hb.setSame (by assumption) | refine Hb.set (by first | omega | (simp only [size_alloc, size_setB, size_drew]; omega)) ?_ ))) rfl (by first | omega | assumption | rfl | decide | exact Nat.le_refl _ | (simp only [size_ic, Value.cells]; omega) | simp) (by first | omega | assumption | rfl | decide | exact Nat.le_refl _ | (simp only [size_ic, Value.cells]; omega) | simp) (by first | exact oneCell_ic | assumption) ?_ | refine WO_store Hvad.sizeOf59 rfl (v := .agg _) rfl (Hb.h (by repeat (first | assumption | exact Hb.newY _ _ | refine Hb.alloc ?_ | refine Hb.drew ?_ | refine Hb.ext (by assumption) ?_ | exact Hb.setSameL (by first | omega | (simp only [size_alloc, size_setB, size_drew]; omega)) | exact Hb.setSame (by assumption) | refine Hb.set (by first | omega | (simp only [size_alloc, size_setB, size_drew]; omega)) ?_ ))) (by first | omega | assumption | rfl | decide | exact Nat.le_refl _ | (simp only [size_ic, Value.cells]; omega) | simp) (by first | omega | assumption | rfl | decide | exact Nat.le_refl _ | (simp only [size_ic, Value.cells]; omega) | simp) (by first | exact oneCell_ic | assumption) ?_
    refine WO_nil ?_
    refine thn_normal ?_
    refine W_seq ?_
    refine W_region rfl ?_
    refine WO_p (PS_assign_int rfl) ?_
    refine WO_nil ?_
    refine thn_normal ?_
    refine W_seq ?_
    refine W_region rfl ?_
    refine WO_p (PS_assign_slice rfl) ?_
    refine WO_nil ?_
    refine thn_normal ?_
    refine W_seq ?_
    refine W_region rfl ?_
    refine WO_p (PS_move_ptr rfl) ?_
    refine WO_call Hvad.call49 (by rfl) (Ret.mono (opcode_spec C c v B m t f _ (MS.ext hM (by repeat (first | assumption | exact Ext.refl _ | refine Ext.alloc ?_ _ | refine Ext.drew ?_ | refine Ext.setB ?_ (by first | omega | (simp only [size_alloc, size_setB, size_drew]; omega)) _ | exact Ext.trans (by assumption) (by assumption) | refine Ext.trans ?_ (by assumption)))) hR hcl) ?_)
    rintro _ w49_6 ⟨hE49_6, rfl⟩
    have hz49_6 := hE49_6.1
    try simp only [size_alloc, size_setB, size_drew] at hz49_6
    try rw [hop]
    refine WO_p (PS_assign_int rfl) ?_
    refine WO_nil ?_
    refine thn_normal ?_
    refine W_seq ?_
    refine W_seq ?_
    refine W_region rfl ?_
    refine WO_p (PS_move_int rfl) ?_
    refine WO_nil ?_
    refine thn_normal ?_
    refine W_block ?_
    refine W_seq ?_
    refine W_region rfl ?_
    refine WO_p (PS_eql rfl rfl) ?_
    refine WO_p (PS_assign_bool rfl) ?_
    refine WO_nil ?_
    refine thn_normal ?_
    refine W_if rfl (fun hb9 => ?_) (fun hb9 => ?_)
    · have hb9p := hb9.h; try simp only [al_ete, al_dfn, Bool.not_eq_true', Bool.not_eq_false', al_ne, Bool.not_not, al_nn] at hb9p
      have hin : (3 : Int) ≤ f.sp ∧ f.sp - 3 + 0 ≤ 64 := by have h := hk; rw [show o = 55 from by omega] at h; exact h
      have hre := hAd.re (by rw [show o = 55 from by omega]; rfl)
      rw [show o = 55 from by omega] at hre
      replace hre : (reachW (m.argW f 0) (m.argW f 2)).2 = true ∧ 32 * (reachW (m.argW f 0) (m.argW f 2)).1 ≤ szOf m.base t := hre
      have hft := reach_fit (hwdA 2) hre.1
      have hre2 := hre.2
      refine W_region rfl ?_
      refine WO_p (PS_move_ptr rfl) ?_
      refine WO_p (PS_nilCheck rfl) ?_
      refine WO_p (PS_fieldAddr 54 Hvad.runUnderlying65 rfl Hvad.sizeOf32 rfl rfl) ?_
      refine WO_load (.slice _ _ _) Hvad.isAgg32 rfl (Hb.h (by repeat (first | assumption | exact Hb.newY _ _ | refine Hb.alloc ?_ | refine Hb.drew ?_ | refine Hb.ext (by assumption) ?_ | exact Hb.setSameL (by first | omega | (simp only [size_alloc, size_setB, size_drew]; omega)) | exact Hb.setSame (by assumption) | refine Hb.set (by first | omega | (simp only [size_alloc, size_setB, size_drew]; omega)) ?_ ))) (Ce.h (by first | assumption | exact ⟨rfl⟩)) ?_
      refine WO_p (PS_assign_slice rfl) ?_
      refine WO_nil ?_
      refine inBlk_normal ?_
      refine thn_normal ?_
      refine W_seq ?_
      refine W_region rfl ?_
      refine WO_p (PS_assign_bool rfl) ?_
      refine WO_nil ?_
      refine thn_normal ?_
      refine W_seq ?_
      refine W_seq ?_
      refine W_region rfl ?_
      refine WO_p (PS_move_int rfl) ?_
      refine WO_p (PS_eql rfl rfl) ?_
      refine WO_nil ?_
      refine thn_normal ?_
      refine W_if rfl (fun hb11 => ?_) (fun hb11 => ?_)
      · have hb11p := hb11.h; try simp only [al_ete, al_dfn, Bool.not_eq_true', Bool.not_eq_false', al_ne, Bool.not_not, al_nn] at hb11p
        (exfalso; omega) --END
      · have hb11p := hb11.h; try simp only [al_ete, al_dfn, Bool.not_eq_true', Bool.not_eq_false', al_ne, Bool.not_not, al_nn] at hb11p
        skip
        refine W_seq ?_
        refine W_region rfl ?_
        refine WO_loadA _ Hvad.isAgg59 Hvad.sizeOf59 rfl (Hb.h (by repeat (first | assumption | exact Hb.newY _ _ | refine Hb.alloc ?_ | refine Hb.drew ?_ | refine Hb.ext (by assumption) ?_ | exact Hb.setSameL (by first | omega | (simp only [size_alloc, size_setB, size_drew]; omega)) | exact Hb.setSame (by assumption) | refine Hb.set (by first | omega | (simp only [size_alloc, size_setB, size_drew]; omega)) ?_ ))) (by first | omega | assumption | rfl | decide | exact Nat.le_refl _ | (simp only [size_ic, Value.cells]; omega) | simp) (Xt.h (by first | assumption | exact Xt.whole rfl rfl | exact Xt.whole rfl (by simp only [size_ic, Value.cells]; omega) | exact ⟨rfl⟩)) ?_
        refine WO_call Hvad.call131 (by rfl) (Ret.mono (isz_spec _ _ (hwdA _)) ?_)
        rintro _ w131_11 ⟨rfl, hE131_11⟩
        have hz131_11 := hE131_11.1
        try simp only [size_alloc, size_setB, size_drew] at hz131_11
        refine WO_p (PS_not rfl) ?_
        refine WO_nil ?_
        refine thn_normal ?_
        refine W_if rfl (fun hb15 => ?_) (fun hb15 => ?_)
        · have hb15p := hb15.h; try simp only [al_ete, al_dfn, Bool.not_eq_true', Bool.not_eq_false', al_ne, Bool.not_not, al_nn] at hb15p
          have hnz : ¬ wv (m.argW f 2) = 0 := by simpa using hb15p
          rcases hft with hft | hft
          · exact absurd hft hnz
          obtain ⟨bq, Lq, hbq, _⟩ := hM.buf.some (by omega)
          refine W_drawE [false, false, false, false, true, false, false, true, false, false, false, false] hmix (by kernel_rfl) rfl ?_
          refine WH_p (PS_move_ptr rfl) rfl ?_
          refine WH_p (PS_nilCheck rfl) rfl ?_
          refine WH_p (PS_fieldAddr 1 Hvad.runUnderlying69 rfl Hvad.sizeOf57 rfl rfl) rfl ?_
          refine WH_loadA _ Hvad.isAgg59 Hvad.sizeOf59 rfl (Hb.h (by repeat (first | assumption | exact Hb.newY _ _ | refine Hb.alloc ?_ | refine Hb.drew ?_ | refine Hb.ext (by assumption) ?_ | exact Hb.setSameL (by first | omega | (simp only [size_alloc, size_setB, size_drew]; omega)) | exact Hb.setSame (by assumption) | refine Hb.set (by first | omega | (simp only [size_alloc, size_setB, size_drew]; omega)) ?_ ))) (by first | omega | assumption | rfl | decide | exact Nat.le_refl _ | (simp only [size_ic, Value.cells]; omega) | simp) (Xt.h (by first | assumption | exact Xt.whole rfl rfl | exact Xt.whole rfl (by simp only [size_ic, Value.cells]; omega) | exact ⟨rfl⟩)) ?_
          refine WH_call Hvad.call195 (by rfl) (Ret.mono (small_spec _ _ (hwdA _)) ?_)
          rintro _ w195_15 ⟨hE195_15, rfl⟩
          refine ⟨fun _ => (by repeat (first | assumption | exact Ext.refl _ | refine Ext.alloc ?_ _ | refine Ext.drew ?_ | refine Ext.setB ?_ (by first | omega | (simp only [size_alloc, size_setB, size_drew]; omega)) _ | exact Ext.trans (by assumption) (by assumption) | refine Ext.trans ?_ (by assumption))), ?_⟩
          have hz195_15 := hE195_15.1
          try simp only [size_alloc, size_setB, size_drew] at hz195_15
          try rw [small_nat (hwdA 0) (by omega)]
          try rw [small_nat (hwdA 1) (by omega)]
          try rw [small_nat (hwdA 2) (by omega)]
          try rw [small_nat (hwdA 3) (by omega)]
          refine WH_p (PS_move_slice rfl) rfl ?_
          refine WH_loadA _ Hvad.isAgg59 Hvad.sizeOf59 rfl (Hb.h (by repeat (first | assumption | exact Hb.newY _ _ | refine Hb.alloc ?_ | refine Hb.drew ?_ | refine Hb.ext (by assumption) ?_ | exact Hb.setSameL (by first | omega | (simp only [size_alloc, size_setB, size_drew]; omega)) | exact Hb.setSame (by assumption) | refine Hb.set (by first | omega | (simp only [size_alloc, size_setB, size_drew]; omega)) ?_ ))) (by first | omega | assumption | rfl | decide | exact Nat.le_refl _ | (simp only [size_ic, Value.cells]; omega) | simp) (Xt.h (by first | assumption | exact Xt.whole rfl rfl | exact Xt.whole rfl (by simp only [size_ic, Value.cells]; omega) | exact ⟨rfl⟩)) ?_
          refine WH_call Hvad.call193 (by rfl) (Ret.mono (source_spec _ _ (hwdA _)) ?_)
          rintro _ w193_16 ⟨hE193_16, rfl⟩
          refine ⟨fun _ => (by repeat (first | assumption | exact Ext.refl _ | refine Ext.alloc ?_ _ | refine Ext.drew ?_ | refine Ext.setB ?_ (by first | omega | (simp only [size_alloc, size_setB, size_drew]; omega)) _ | exact Ext.trans (by assumption) (by assumption) | refine Ext.trans ?_ (by assumption))), ?_⟩
          have hz193_16 := hE193_16.1
          try simp only [size_alloc, size_setB, size_drew] at hz193_16
          rw [source_nat (hwdA _)]
          refine WH_loadA _ Hvad.isAgg59 Hvad.sizeOf59 rfl (Hb.h (by repeat (first | assumption | exact Hb.newY _ _ | refine Hb.alloc ?_ | refine Hb.drew ?_ | refine Hb.ext (by assumption) ?_ | exact Hb.setSameL (by first | omega | (simp only [size_alloc, size_setB, size_drew]; omega)) | exact Hb.setSame (by assumption) | refine Hb.set (by first | omega | (simp only [size_alloc, size_setB, size_drew]; omega)) ?_ ))) (by first | omega | assumption | rfl | decide | exact Nat.le_refl _ | (simp only [size_ic, Value.cells]; omega) | simp) (Xt.h (by first | assumption | exact Xt.whole rfl rfl | exact Xt.whole rfl (by simp only [size_ic, Value.cells]; omega) | exact ⟨rfl⟩)) ?_
          refine WH_call Hvad.call195 (by rfl) (Ret.mono (small_spec _ _ (hwdA _)) ?_)
          rintro _ w195_17 ⟨hE195_17, rfl⟩
          refine ⟨(fun h => by cases h), ?_⟩
          have hz195_17 := hE195_17.1
          try simp only [size_alloc, size_setB, size_drew] at hz195_17
          try rw [small_nat (hwdA 0) (by omega)]
          try rw [small_nat (hwdA 1) (by omega)]
          try rw [small_nat (hwdA 2) (by omega)]
          try rw [small_nat (hwdA 3) (by omega)]
          refine WH_call Hvad.call154 (by rfl) (Ret.mono (memWrite_spec C c v B m t lo n (wv (m.argW f 0)).toNat (wv (m.argW f 2)).toNat bq _ f.inputY _ (MS.ext hM (by repeat (first | assumption | exact Ext.refl _ | refine Ext.alloc ?_ _ | refine Ext.drew ?_ | refine Ext.setB ?_ (by first | omega | (simp only [size_alloc, size_setB, size_drew]; omega)) _ | exact Ext.trans (by assumption) (by assumption) | refine Ext.trans ?_ (by assumption)))) hT hbq (by omega) (by omega) (BS.ext hbsI (by repeat (first | assumption | exact Ext.refl _ | refine Ext.alloc ?_ _ | refine Ext.drew ?_ | refine Ext.setB ?_ (by first | omega | (simp only [size_alloc, size_setB, size_drew]; omega)) _ | exact Ext.trans (by assumption) (by assumption) | refine Ext.trans ?_ (by assumption)))) hil.2 (by omega)) ?_)
          rintro _ w6 ⟨rfl, hR6⟩
          refine ⟨(fun h => by cases h), ?_⟩
          obtain ⟨c2, B2, hM2, hS2⟩ := hR6
          have hS2w := MStep.trans (MStep.ext (Ext.refl w)) ((MStep.ext (by repeat (first | assumption | exact Ext.refl _ | refine Ext.alloc ?_ _ | refine Ext.drew ?_ | refine Ext.setB ?_ (by first | omega | (simp only [size_alloc, size_setB, size_drew]; omega)) _ | exact Ext.trans (by assumption) (by assumption) | refine Ext.trans ?_ (by assumption)))).trans hS2)
          refine WH_p (PS_assign_bool rfl) rfl ?_
          refine WH_nil ?_
          refine thn_normal ?_
          refine W_seq ?_
          refine W_seq ?_
          refine W_region rfl ?_
          refine WO_p (PS_move_bool rfl) ?_
          refine WO_p (PS_not rfl) ?_
          refine WO_nil ?_
          refine thn_normal ?_
          refine W_if rfl (fun hb22 => ?_) (fun hb22 => ?_)
          · have hb22p := hb22.h; try simp only [al_ete, al_dfn, Bool.not_eq_true', Bool.not_eq_false', al_ne, Bool.not_not, al_nn] at hb22p
            simp at hb22p --END
          · have hb22p := hb22.h; try simp only [al_ete, al_dfn, Bool.not_eq_true', Bool.not_eq_false', al_ne, Bool.not_not, al_nn] at hb22p
            refine W_skip ?_
            refine thn_normal ?_
            refine W_region rfl ?_
            refine WO_p (PS_move_ptr rfl) ?_
            refine WO_p (PS_move_ptr rfl) ?_
            refine WO_p (PS_move_int rfl) ?_
            refine WO_p (PS_buildI (k := .u64) (zs := [0, 0, 0, 0]) (ps := []) (L := [0, 0, 0, 0]) Hvad.zeroValue59 Hvad.runUnderlying59 Hvad.sizeOf26 rfl rfl rfl rfl) ?_
            refine WO_call Hvad.call155 (by rfl) (Ret.mono (settle_spec C c2 v B2 m t f _ _ _ _ _ (MS.ext hM2 (by repeat (first | assumption | exact Ext.refl _ | refine Ext.alloc ?_ _ | refine Ext.drew ?_ | refine Ext.setB ?_ (by first | omega | (simp only [size_alloc, size_setB, size_drew]; omega)) _ | exact Ext.trans (by assumption) (by assumption) | refine Ext.trans ?_ (by assumption)))) hA (by omega) (by first | (intro _; omega) | (intro h; cases h)) (by first | assumption | exact Wd0 | exact limb_wd (by omega)) (by omega)) ?_)
            rintro _ wS hRS
            have hRS2 : MRet w C B m wS v _ := MRet.trans hS2w (MRet.pre (by repeat (first | assumption | exact Ext.refl _ | refine Ext.alloc ?_ _ | refine Ext.drew ?_ | refine Ext.setB ?_ (by first | omega | (simp only [size_alloc, size_setB, size_drew]; omega)) _ | exact Ext.trans (by assumption) (by assumption) | refine Ext.trans ?_ (by assumption))) hRS)
            refine WO_nil ?_
            first | refine bodyQ_ret0 Hvad.results103 ?_ | refine bodyQ_end0 Hvad.results103 ?_
            exact ⟨v, _, hRS2, (hI.settle hf hI.rw0 hvi (fun _ h => h) (Int.le_refl _) (by omega) (by first | (intro _; omega) | (intro h; cases h)) (by omega) hc).2⟩
        · have hb15p := hb15.h; try simp only [al_ete, al_dfn, Bool.not_eq_true', Bool.not_eq_false', al_ne, Bool.not_not, al_nn] at hb15p
          refine W_skip ?_
          refine thn_normal ?_
          refine W_seq ?_
          refine W_seq ?_
          refine W_region rfl ?_
          refine WO_p (PS_move_bool rfl) ?_
          refine WO_p (PS_not rfl) ?_
          refine WO_nil ?_
          refine thn_normal ?_
          refine W_condF rfl (congrArg not rfl) ?_
          refine W_skip ?_
          refine thn_normal ?_
          refine W_region rfl ?_
          refine WO_p (PS_move_ptr rfl) ?_
          refine WO_p (PS_move_ptr rfl) ?_
          refine WO_p (PS_move_int rfl) ?_
          refine WO_p (PS_buildI (k := .u64) (zs := [0, 0, 0, 0]) (ps := []) (L := [0, 0, 0, 0]) Hvad.zeroValue59 Hvad.runUnderlying59 Hvad.sizeOf26 rfl rfl rfl rfl) ?_
          refine WO_call Hvad.call155 (by rfl) (Ret.mono (settle_spec C c v B m t f _ _ _ _ _ (MS.ext hM (by repeat (first | assumption | exact Ext.refl _ | refine Ext.alloc ?_ _ | refine Ext.drew ?_ | refine Ext.setB ?_ (by first | omega | (simp only [size_alloc, size_setB, size_drew]; omega)) _ | exact Ext.trans (by assumption) (by assumption) | refine Ext.trans ?_ (by assumption)))) hA (by omega) (by first | (intro _; omega) | (intro h; cases h)) (by first | assumption | exact Wd0 | exact limb_wd (by omega)) (by omega)) ?_)
          rintro _ wS hRS
          have hRS2 : MRet w C B m wS v _ := MRet.trans (MStep.ext (Ext.refl w)) (MRet.pre (by repeat (first | assumption | exact Ext.refl _ | refine Ext.alloc ?_ _ | refine Ext.drew ?_ | refine Ext.setB ?_ (by first | omega | (simp only [size_alloc, size_setB, size_drew]; omega)) _ | exact Ext.trans (by assumption) (by assumption) | refine Ext.trans ?_ (by assumption))) hRS)
          refine WO_nil ?_
          first | refine bodyQ_ret0 Hvad.results103 ?_ | refine bodyQ_end0 Hvad.results103 ?_
          exact ⟨v, _, hRS2, (hI.settle hf hI.rw0 hvi (fun _ h => h) (Int.le_refl _) (by omega) (by first | (intro _; omega) | (intro h; cases h)) (by omega) hc).2⟩
    · have hb9p := hb9.h; try simp only [al_ete, al_dfn, Bool.not_eq_true', Bool.not_eq_false', al_ne, Bool.not_not, al_nn] at hb9p
      refine W_seq ?_
      refine W_region rfl ?_
      refine WO_p (PS_eql rfl rfl) ?_
      refine WO_p (PS_assign_bool rfl) ?_
      refine WO_nil ?_
      refine thn_normal ?_
      refine W_if rfl (fun hb27 => ?_) (fun hb27 => ?_)
      · have hb27p := hb27.h; try simp only [al_ete, al_dfn, Bool.not_eq_true', Bool.not_eq_false', al_ne, Bool.not_not, al_nn] at hb27p
        have hin : (3 : Int) ≤ f.sp ∧ f.sp - 3 + 0 ≤ 64 := by have h := hk; rw [show o = 57 from by omega] at h; exact h
        have hre := hAd.re (by rw [show o = 57 from by omega]; rfl)
        rw [show o = 57 from by omega] at hre
        replace hre : (reachW (m.argW f 0) (m.argW f 2)).2 = true ∧ 32 * (reachW (m.argW f 0) (m.argW f 2)).1 ≤ szOf m.base t := hre
        have hft := reach_fit (hwdA 2) hre.1
        have hre2 := hre.2
        refine W_region rfl ?_
        refine WO_p (PS_move_ptr rfl) ?_
        refine WO_p (PS_nilCheck rfl) ?_
        refine WO_p (PS_fieldAddr 53 Hvad.runUnderlying65 rfl Hvad.sizeOf32 rfl rfl) ?_
        refine WO_load (.slice _ _ _) Hvad.isAgg32 rfl (Hb.h (by repeat (first | assumption | exact Hb.newY _ _ | refine Hb.alloc ?_ | refine Hb.drew ?_ | refine Hb.ext (by assumption) ?_ | exact Hb.setSameL (by first | omega | (simp only [size_alloc, size_setB, size_drew]; omega)) | exact Hb.setSame (by assumption) | refine Hb.set (by first | omega | (simp only [size_alloc, size_setB, size_drew]; omega)) ?_ ))) (Ce.h (by first | assumption | exact ⟨rfl⟩)) ?_
        refine WO_p (PS_assign_slice rfl) ?_
        refine WO_nil ?_
        refine inBlk_normal ?_
        refine thn_normal ?_
        refine W_seq ?_
        refine W_region rfl ?_
        refine WO_p (PS_assign_bool rfl) ?_
        refine WO_nil ?_
        refine thn_normal ?_
        refine W_seq ?_
        refine W_seq ?_
        refine W_region rfl ?_
        refine WO_p (PS_move_int rfl) ?_
        refine WO_p (PS_eql rfl rfl) ?_
        refine WO_nil ?_
        refine thn_normal ?_
        refine W_if rfl (fun hb29 => ?_) (fun hb29 => ?_)
        · have hb29p := hb29.h; try simp only [al_ete, al_dfn, Bool.not_eq_true', Bool.not_eq_false', al_ne, Bool.not_not, al_nn] at hb29p
          (exfalso; omega) --END
        · have hb29p := hb29.h; try simp only [al_ete, al_dfn, Bool.not_eq_true', Bool.not_eq_false', al_ne, Bool.not_not, al_nn] at hb29p
          skip
          refine W_seq ?_
          refine W_region rfl ?_
          refine WO_loadA _ Hvad.isAgg59 Hvad.sizeOf59 rfl (Hb.h (by repeat (first | assumption | exact Hb.newY _ _ | refine Hb.alloc ?_ | refine Hb.drew ?_ | refine Hb.ext (by assumption) ?_ | exact Hb.setSameL (by first | omega | (simp only [size_alloc, size_setB, size_drew]; omega)) | exact Hb.setSame (by assumption) | refine Hb.set (by first | omega | (simp only [size_alloc, size_setB, size_drew]; omega)) ?_ ))) (by first | omega | assumption | rfl | decide | exact Nat.le_refl _ | (simp only [size_ic, Value.cells]; omega) | simp) (Xt.h (by first | assumption | exact Xt.whole rfl rfl | exact Xt.whole rfl (by simp only [size_ic, Value.cells]; omega) | exact ⟨rfl⟩)) ?_
          refine WO_call Hvad.call131 (by rfl) (Ret.mono (isz_spec _ _ (hwdA _)) ?_)
          rintro _ w131_29 ⟨rfl, hE131_29⟩
          have hz131_29 := hE131_29.1
          try simp only [size_alloc, size_setB, size_drew] at hz131_29
          refine WO_p (PS_not rfl) ?_
          refine WO_nil ?_
          refine thn_normal ?_
          refine W_if rfl (fun hb33 => ?_) (fun hb33 => ?_)
          · have hb33p := hb33.h; try simp only [al_ete, al_dfn, Bool.not_eq_true', Bool.not_eq_false', al_ne, Bool.not_not, al_nn] at hb33p
            have hnz : ¬ wv (m.argW f 2) = 0 := by simpa using hb33p
            rcases hft with hft | hft
            · exact absurd hft hnz
            obtain ⟨bq, Lq, hbq, _⟩ := hM.buf.some (by omega)
            refine W_drawE [false, false, false, false, true, false, false, true, false, false, false, false] hmix (by kernel_rfl) rfl ?_
            refine WH_p (PS_move_ptr rfl) rfl ?_
            refine WH_p (PS_nilCheck rfl) rfl ?_
            refine WH_p (PS_fieldAddr 1 Hvad.runUnderlying69 rfl Hvad.sizeOf57 rfl rfl) rfl ?_
            refine WH_loadA _ Hvad.isAgg59 Hvad.sizeOf59 rfl (Hb.h (by repeat (first | assumption | exact Hb.newY _ _ | refine Hb.alloc ?_ | refine Hb.drew ?_ | refine Hb.ext (by assumption) ?_ | exact Hb.setSameL (by first | omega | (simp only [size_alloc, size_setB, size_drew]; omega)) | exact Hb.setSame (by assumption) | refine Hb.set (by first | omega | (simp only [size_alloc, size_setB, size_drew]; omega)) ?_ ))) (by first | omega | assumption | rfl | decide | exact Nat.le_refl _ | (simp only [size_ic, Value.cells]; omega) | simp) (Xt.h (by first | assumption | exact Xt.whole rfl rfl | exact Xt.whole rfl (by simp only [size_ic, Value.cells]; omega) | exact ⟨rfl⟩)) ?_
            refine WH_call Hvad.call195 (by rfl) (Ret.mono (small_spec _ _ (hwdA _)) ?_)
            rintro _ w195_33 ⟨hE195_33, rfl⟩
            refine ⟨fun _ => (by repeat (first | assumption | exact Ext.refl _ | refine Ext.alloc ?_ _ | refine Ext.drew ?_ | refine Ext.setB ?_ (by first | omega | (simp only [size_alloc, size_setB, size_drew]; omega)) _ | exact Ext.trans (by assumption) (by assumption) | refine Ext.trans ?_ (by assumption))), ?_⟩
            have hz195_33 := hE195_33.1
            try simp only [size_alloc, size_setB, size_drew] at hz195_33
            try rw [small_nat (hwdA 0) (by omega)]
            try rw [small_nat (hwdA 1) (by omega)]
            try rw [small_nat (hwdA 2) (by omega)]
            try rw [small_nat (hwdA 3) (by omega)]
            refine WH_p (PS_move_slice rfl) rfl ?_
            refine WH_loadA _ Hvad.isAgg59 Hvad.sizeOf59 rfl (Hb.h (by repeat (first | assumption | exact Hb.newY _ _ | refine Hb.alloc ?_ | refine Hb.drew ?_ | refine Hb.ext (by assumption) ?_ | exact Hb.setSameL (by first | omega | (simp only [size_alloc, size_setB, size_drew]; omega)) | exact Hb.setSame (by assumption) | refine Hb.set (by first | omega | (simp only [size_alloc, size_setB, size_drew]; omega)) ?_ ))) (by first | omega | assumption | rfl | decide | exact Nat.le_refl _ | (simp only [size_ic, Value.cells]; omega) | simp) (Xt.h (by first | assumption | exact Xt.whole rfl rfl | exact Xt.whole rfl (by simp only [size_ic, Value.cells]; omega) | exact ⟨rfl⟩)) ?_
            refine WH_call Hvad.call193 (by rfl) (Ret.mono (source_spec _ _ (hwdA _)) ?_)
            rintro _ w193_34 ⟨hE193_34, rfl⟩
            refine ⟨fun _ => (by repeat (first | assumption | exact Ext.refl _ | refine Ext.alloc ?_ _ | refine Ext.drew ?_ | refine Ext.setB ?_ (by first | omega | (simp only [size_alloc, size_setB, size_drew]; omega)) _ | exact Ext.trans (by assumption) (by assumption) | refine Ext.trans ?_ (by assumption))), ?_⟩
            have hz193_34 := hE193_34.1
            try simp only [size_alloc, size_setB, size_drew] at hz193_34
            rw [source_nat (hwdA _)]
            refine WH_loadA _ Hvad.isAgg59 Hvad.sizeOf59 rfl (Hb.h (by repeat (first | assumption | exact Hb.newY _ _ | refine Hb.alloc ?_ | refine Hb.drew ?_ | refine Hb.ext (by assumption) ?_ | exact Hb.setSameL (by first | omega | (simp only [size_alloc, size_setB, size_drew]; omega)) | exact Hb.setSame (by assumption) | refine Hb.set (by first | omega | (simp only [size_alloc, size_setB, size_drew]; omega)) ?_ ))) (by first | omega | assumption | rfl | decide | exact Nat.le_refl _ | (simp only [size_ic, Value.cells]; omega) | simp) (Xt.h (by first | assumption | exact Xt.whole rfl rfl | exact Xt.whole rfl (by simp only [size_ic, Value.cells]; omega) | exact ⟨rfl⟩)) ?_
            refine WH_call Hvad.call195 (by rfl) (Ret.mono (small_spec _ _ (hwdA _)) ?_)
            rintro _ w195_35 ⟨hE195_35, rfl⟩
            refine ⟨(fun h => by cases h), ?_⟩
            have hz195_35 := hE195_35.1
            try simp only [size_alloc, size_setB, size_drew] at hz195_35
            try rw [small_nat (hwdA 0) (by omega)]
            try rw [small_nat (hwdA 1) (by omega)]
            try rw [small_nat (hwdA 2) (by omega)]
            try rw [small_nat (hwdA 3) (by omega)]
            refine WH_call Hvad.call154 (by rfl) (Ret.mono (memWrite_spec C c v B m t lo n (wv (m.argW f 0)).toNat (wv (m.argW f 2)).toNat bq _ f.code _ (MS.ext hM (by repeat (first | assumption | exact Ext.refl _ | refine Ext.alloc ?_ _ | refine Ext.drew ?_ | refine Ext.setB ?_ (by first | omega | (simp only [size_alloc, size_setB, size_drew]; omega)) _ | exact Ext.trans (by assumption) (by assumption) | refine Ext.trans ?_ (by assumption)))) hT hbq (by omega) (by omega) (BS.ext hbsC (by repeat (first | assumption | exact Ext.refl _ | refine Ext.alloc ?_ _ | refine Ext.drew ?_ | refine Ext.setB ?_ (by first | omega | (simp only [size_alloc, size_setB, size_drew]; omega)) _ | exact Ext.trans (by assumption) (by assumption) | refine Ext.trans ?_ (by assumption)))) hccc (by omega)) ?_)
            rintro _ w6 ⟨rfl, hR6⟩
            refine ⟨(fun h => by cases h), ?_⟩
            obtain ⟨c2, B2, hM2, hS2⟩ := hR6
            have hS2w := MStep.trans (MStep.ext (Ext.refl w)) ((MStep.ext (by repeat (first | assumption | exact Ext.refl _ | refine Ext.alloc ?_ _ | refine Ext.drew ?_ | refine Ext.setB ?_ (by first | omega | (simp only [size_alloc, size_setB, size_drew]; omega)) _ | exact Ext.trans (by assumption) (by assumption) | refine Ext.trans ?_ (by assumption)))).trans hS2)
            refine WH_p (PS_assign_bool rfl) rfl ?_
            refine WH_nil ?_
            refine thn_normal ?_
            refine W_seq ?_
            refine W_seq ?_
            refine W_region rfl ?_
            refine WO_p (PS_move_bool rfl) ?_
            refine WO_p (PS_not rfl) ?_
            refine WO_nil ?_
            refine thn_normal ?_
            refine W_if rfl (fun hb40 => ?_) (fun hb40 => ?_)
            · have hb40p := hb40.h; try simp only [al_ete, al_dfn, Bool.not_eq_true', Bool.not_eq_false', al_ne, Bool.not_not, al_nn] at hb40p
              simp at hb40p --END
            · have hb40p := hb40.h; try simp only [al_ete, al_dfn, Bool.not_eq_true', Bool.not_eq_false', al_ne, Bool.not_not, al_nn] at hb40p
              refine W_skip ?_
              refine thn_normal ?_
              refine W_region rfl ?_
              refine WO_p (PS_move_ptr rfl) ?_
              refine WO_p (PS_move_ptr rfl) ?_
              refine WO_p (PS_move_int rfl) ?_
              refine WO_p (PS_buildI (k := .u64) (zs := [0, 0, 0, 0]) (ps := []) (L := [0, 0, 0, 0]) Hvad.zeroValue59 Hvad.runUnderlying59 Hvad.sizeOf26 rfl rfl rfl rfl) ?_
              refine WO_call Hvad.call155 (by rfl) (Ret.mono (settle_spec C c2 v B2 m t f _ _ _ _ _ (MS.ext hM2 (by repeat (first | assumption | exact Ext.refl _ | refine Ext.alloc ?_ _ | refine Ext.drew ?_ | refine Ext.setB ?_ (by first | omega | (simp only [size_alloc, size_setB, size_drew]; omega)) _ | exact Ext.trans (by assumption) (by assumption) | refine Ext.trans ?_ (by assumption)))) hA (by omega) (by first | (intro _; omega) | (intro h; cases h)) (by first | assumption | exact Wd0 | exact limb_wd (by omega)) (by omega)) ?_)
              rintro _ wS hRS
              have hRS2 : MRet w C B m wS v _ := MRet.trans hS2w (MRet.pre (by repeat (first | assumption | exact Ext.refl _ | refine Ext.alloc ?_ _ | refine Ext.drew ?_ | refine Ext.setB ?_ (by first | omega | (simp only [size_alloc, size_setB, size_drew]; omega)) _ | exact Ext.trans (by assumption) (by assumption) | refine Ext.trans ?_ (by assumption))) hRS)
              refine WO_nil ?_
              first | refine bodyQ_ret0 Hvad.results103 ?_ | refine bodyQ_end0 Hvad.results103 ?_
              exact ⟨v, _, hRS2, (hI.settle hf hI.rw0 hvi (fun _ h => h) (Int.le_refl _) (by omega) (by first | (intro _; omega) | (intro h; cases h)) (by omega) hc).2⟩
          · have hb33p := hb33.h; try simp only [al_ete, al_dfn, Bool.not_eq_true', Bool.not_eq_false', al_ne, Bool.not_not, al_nn] at hb33p
            refine W_skip ?_
            refine thn_normal ?_
            refine W_seq ?_
            refine W_seq ?_
            refine W_region rfl ?_
            refine WO_p (PS_move_bool rfl) ?_
            refine WO_p (PS_not rfl) ?_
            refine WO_nil ?_
            refine thn_normal ?_
            refine W_condF rfl (congrArg not rfl) ?_
            refine W_skip ?_
            refine thn_normal ?_
            refine W_region rfl ?_
            refine WO_p (PS_move_ptr rfl) ?_
            refine WO_p (PS_move_ptr rfl) ?_
            refine WO_p (PS_move_int rfl) ?_
            refine WO_p (PS_buildI (k := .u64) (zs := [0, 0, 0, 0]) (ps := []) (L := [0, 0, 0, 0]) Hvad.zeroValue59 Hvad.runUnderlying59 Hvad.sizeOf26 rfl rfl rfl rfl) ?_
            refine WO_call Hvad.call155 (by rfl) (Ret.mono (settle_spec C c v B m t f _ _ _ _ _ (MS.ext hM (by repeat (first | assumption | exact Ext.refl _ | refine Ext.alloc ?_ _ | refine Ext.drew ?_ | refine Ext.setB ?_ (by first | omega | (simp only [size_alloc, size_setB, size_drew]; omega)) _ | exact Ext.trans (by assumption) (by assumption) | refine Ext.trans ?_ (by assumption)))) hA (by omega) (by first | (intro _; omega) | (intro h; cases h)) (by first | assumption | exact Wd0 | exact limb_wd (by omega)) (by omega)) ?_)
            rintro _ wS hRS
            have hRS2 : MRet w C B m wS v _ := MRet.trans (MStep.ext (Ext.refl w)) (MRet.pre (by repeat (first | assumption | exact Ext.refl _ | refine Ext.alloc ?_ _ | refine Ext.drew ?_ | refine Ext.setB ?_ (by first | omega | (simp only [size_alloc, size_setB, size_drew]; omega)) _ | exact Ext.trans (by assumption) (by assumption) | refine Ext.trans ?_ (by assumption))) hRS)
            refine WO_nil ?_
            first | refine bodyQ_ret0 Hvad.results103 ?_ | refine bodyQ_end0 Hvad.results103 ?_
            exact ⟨v, _, hRS2, (hI.settle hf hI.rw0 hvi (fun _ h => h) (Int.le_refl _) (by omega) (by first | (intro _; omega) | (intro h; cases h)) (by omega) hc).2⟩
      · have hb27p := hb27.h; try simp only [al_ete, al_dfn, Bool.not_eq_true', Bool.not_eq_false', al_ne, Bool.not_not, al_nn] at hb27p
        refine W_seq ?_
        refine W_region rfl ?_
        refine WO_p (PS_eql rfl rfl) ?_
        refine WO_p (PS_assign_bool rfl) ?_
        refine WO_nil ?_
        refine thn_normal ?_
        refine W_if rfl (fun hb45 => ?_) (fun hb45 => ?_)
        · have hb45p := hb45.h; try simp only [al_ete, al_dfn, Bool.not_eq_true', Bool.not_eq_false', al_ne, Bool.not_not, al_nn] at hb45p
          have hin : (3 : Int) ≤ f.sp ∧ f.sp - 3 + 0 ≤ 64 := by have h := hk; rw [show o = 62 from by omega] at h; exact h
          have hre := hAd.re (by rw [show o = 62 from by omega]; rfl)
          rw [show o = 62 from by omega] at hre
          replace hre : (reachW (m.argW f 0) (m.argW f 2)).2 = true ∧ 32 * (reachW (m.argW f 0) (m.argW f 2)).1 ≤ szOf m.base t := hre
          have hft := reach_fit (hwdA 2) hre.1
          have hre2 := hre.2
          refine W_region rfl ?_
          refine WO_p (PS_move_ptr rfl) ?_
          refine WO_p (PS_nilCheck rfl) ?_
          refine WO_p (PS_fieldAddr 2259 Hvad.runUnderlying69 rfl Hvad.sizeOf32 rfl rfl) ?_
          refine WO_load (.slice _ _ _) Hvad.isAgg32 rfl (Hb.h (by repeat (first | assumption | exact Hb.newY _ _ | refine Hb.alloc ?_ | refine Hb.drew ?_ | refine Hb.ext (by assumption) ?_ | exact Hb.setSameL (by first | omega | (simp only [size_alloc, size_setB, size_drew]; omega)) | exact Hb.setSame (by assumption) | refine Hb.set (by first | omega | (simp only [size_alloc, size_setB, size_drew]; omega)) ?_ ))) (Ce.h (by first | assumption | exact ⟨rfl⟩)) ?_
          refine WO_p (PS_assign_slice rfl) ?_
          refine WO_nil ?_
          refine inBlk_normal ?_
          refine thn_normal ?_
          refine W_seq ?_
          refine W_region rfl ?_
          refine WO_p (PS_assign_bool rfl) ?_
          refine WO_nil ?_
          refine thn_normal ?_
          refine W_seq ?_
          refine W_seq ?_
          refine W_region rfl ?_
          refine WO_p (PS_move_int rfl) ?_
          refine WO_p (PS_eql rfl rfl) ?_
          refine WO_nil ?_
          refine thn_normal ?_
          refine W_if rfl (fun hb47 => ?_) (fun hb47 => ?_)
          · have hb47p := hb47.h; try simp only [al_ete, al_dfn, Bool.not_eq_true', Bool.not_eq_false', al_ne, Bool.not_not, al_nn] at hb47p
            (exfalso; omega) --END
          · have hb47p := hb47.h; try simp only [al_ete, al_dfn, Bool.not_eq_true', Bool.not_eq_false', al_ne, Bool.not_not, al_nn] at hb47p
            skip
            refine W_seq ?_
            refine W_region rfl ?_
            refine WO_loadA _ Hvad.isAgg59 Hvad.sizeOf59 rfl (Hb.h (by repeat (first | assumption | exact Hb.newY _ _ | refine Hb.alloc ?_ | refine Hb.drew ?_ | refine Hb.ext (by assumption) ?_ | exact Hb.setSameL (by first | omega | (simp only [size_alloc, size_setB, size_drew]; omega)) | exact Hb.setSame (by assumption) | refine Hb.set (by first | omega | (simp only [size_alloc, size_setB, size_drew]; omega)) ?_ ))) (by first | omega | assumption | rfl | decide | exact Nat.le_refl _ | (simp only [size_ic, Value.cells]; omega) | simp) (Xt.h (by first | assumption | exact Xt.whole rfl rfl | exact Xt.whole rfl (by simp only [size_ic, Value.cells]; omega) | exact ⟨rfl⟩)) ?_
            refine WO_call Hvad.call131 (by rfl) (Ret.mono (isz_spec _ _ (hwdA _)) ?_)
            rintro _ w131_47 ⟨rfl, hE131_47⟩
            have hz131_47 := hE131_47.1
            try simp only [size_alloc, size_setB, size_drew] at hz131_47
            refine WO_p (PS_not rfl) ?_
            refine WO_nil ?_
            refine thn_normal ?_
            refine W_if rfl (fun hb51 => ?_) (fun hb51 => ?_)
            · have hb51p := hb51.h; try simp only [al_ete, al_dfn, Bool.not_eq_true', Bool.not_eq_false', al_ne, Bool.not_not, al_nn] at hb51p
              have hnz : ¬ wv (m.argW f 2) = 0 := by simpa using hb51p
              rcases hft with hft | hft
              · exact absurd hft hnz
              obtain ⟨bq, Lq, hbq, _⟩ := hM.buf.some (by omega)
              refine W_drawE [false, false, false, false, true, false, false, true, false, false, false, false] hmix (by kernel_rfl) rfl ?_
              refine WH_p (PS_move_ptr rfl) rfl ?_
              refine WH_p (PS_nilCheck rfl) rfl ?_
              refine WH_p (PS_fieldAddr 1 Hvad.runUnderlying69 rfl Hvad.sizeOf57 rfl rfl) rfl ?_
              refine WH_loadA _ Hvad.isAgg59 Hvad.sizeOf59 rfl (Hb.h (by repeat (first | assumption | exact Hb.newY _ _ | refine Hb.alloc ?_ | refine Hb.drew ?_ | refine Hb.ext (by assumption) ?_ | exact Hb.setSameL (by first | omega | (simp only [size_alloc, size_setB, size_drew]; omega)) | exact Hb.setSame (by assumption) | refine Hb.set (by first | omega | (simp only [size_alloc, size_setB, size_drew]; omega)) ?_ ))) (by first | omega | assumption | rfl | decide | exact Nat.le_refl _ | (simp only [size_ic, Value.cells]; omega) | simp) (Xt.h (by first | assumption | exact Xt.whole rfl rfl | exact Xt.whole rfl (by simp only [size_ic, Value.cells]; omega) | exact ⟨rfl⟩)) ?_
              refine WH_call Hvad.call195 (by rfl) (Ret.mono (small_spec _ _ (hwdA _)) ?_)
              rintro _ w195_51 ⟨hE195_51, rfl⟩
              refine ⟨fun _ => (by repeat (first | assumption | exact Ext.refl _ | refine Ext.alloc ?_ _ | refine Ext.drew ?_ | refine Ext.setB ?_ (by first | omega | (simp only [size_alloc, size_setB, size_drew]; omega)) _ | exact Ext.trans (by assumption) (by assumption) | refine Ext.trans ?_ (by assumption))), ?_⟩
              have hz195_51 := hE195_51.1
              try simp only [size_alloc, size_setB, size_drew] at hz195_51
              try rw [small_nat (hwdA 0) (by omega)]
              try rw [small_nat (hwdA 1) (by omega)]
              try rw [small_nat (hwdA 2) (by omega)]
              try rw [small_nat (hwdA 3) (by omega)]
              refine WH_p (PS_move_slice rfl) rfl ?_
              refine WH_loadA _ Hvad.isAgg59 Hvad.sizeOf59 rfl (Hb.h (by repeat (first | assumption | exact Hb.newY _ _ | refine Hb.alloc ?_ | refine Hb.drew ?_ | refine Hb.ext (by assumption) ?_ | exact Hb.setSameL (by first | omega | (simp only [size_alloc, size_setB, size_drew]; omega)) | exact Hb.setSame (by assumption) | refine Hb.set (by first | omega | (simp only [size_alloc, size_setB, size_drew]; omega)) ?_ ))) (by first | omega | assumption | rfl | decide | exact Nat.le_refl _ | (simp only [size_ic, Value.cells]; omega) | simp) (Xt.h (by first | assumption | exact Xt.whole rfl rfl | exact Xt.whole rfl (by simp only [size_ic, Value.cells]; omega) | exact ⟨rfl⟩)) ?_
              refine WH_call Hvad.call193 (by rfl) (Ret.mono (source_spec _ _ (hwdA _)) ?_)
              rintro _ w193_52 ⟨hE193_52, rfl⟩
              refine ⟨fun _ => (by repeat (first | assumption | exact Ext.refl _ | refine Ext.alloc ?_ _ | refine Ext.drew ?_ | refine Ext.setB ?_ (by first | omega | (simp only [size_alloc, size_setB, size_drew]; omega)) _ | exact Ext.trans (by assumption) (by assumption) | refine Ext.trans ?_ (by assumption))), ?_⟩
              have hz193_52 := hE193_52.1
              try simp only [size_alloc, size_setB, size_drew] at hz193_52
              rw [source_nat (hwdA _)]
              refine WH_loadA _ Hvad.isAgg59 Hvad.sizeOf59 rfl (Hb.h (by repeat (first | assumption | exact Hb.newY _ _ | refine Hb.alloc ?_ | refine Hb.drew ?_ | refine Hb.ext (by assumption) ?_ | exact Hb.setSameL (by first | omega | (simp only [size_alloc, size_setB, size_drew]; omega)) | exact Hb.setSame (by assumption) | refine Hb.set (by first | omega | (simp only [size_alloc, size_setB, size_drew]; omega)) ?_ ))) (by first | omega | assumption | rfl | decide | exact Nat.le_refl _ | (simp only [size_ic, Value.cells]; omega) | simp) (Xt.h (by first | assumption | exact Xt.whole rfl rfl | exact Xt.whole rfl (by simp only [size_ic, Value.cells]; omega) | exact ⟨rfl⟩)) ?_
              refine WH_call Hvad.call195 (by rfl) (Ret.mono (small_spec _ _ (hwdA _)) ?_)
              rintro _ w195_53 ⟨hE195_53, rfl⟩
              refine ⟨(fun h => by cases h), ?_⟩
              have hz195_53 := hE195_53.1
              try simp only [size_alloc, size_setB, size_drew] at hz195_53
              try rw [small_nat (hwdA 0) (by omega)]
              try rw [small_nat (hwdA 1) (by omega)]
              try rw [small_nat (hwdA 2) (by omega)]
              try rw [small_nat (hwdA 3) (by omega)]
              refine WH_call Hvad.call154 (by rfl) (Ret.mono (memWrite_spec C c v B m t lo n (wv (m.argW f 0)).toNat (wv (m.argW f 2)).toNat bq _ m.ret _ (MS.ext hM (by repeat (first | assumption | exact Ext.refl _ | refine Ext.alloc ?_ _ | refine Ext.drew ?_ | refine Ext.setB ?_ (by first | omega | (simp only [size_alloc, size_setB, size_drew]; omega)) _ | exact Ext.trans (by assumption) (by assumption) | refine Ext.trans ?_ (by assumption)))) hT hbq (by omega) (by omega) (BS.ext hbsR (by repeat (first | assumption | exact Ext.refl _ | refine Ext.alloc ?_ _ | refine Ext.drew ?_ | refine Ext.setB ?_ (by first | omega | (simp only [size_alloc, size_setB, size_drew]; omega)) _ | exact Ext.trans (by assumption) (by assumption) | refine Ext.trans ?_ (by assumption)))) hrt.2 (by omega)) ?_)
              rintro _ w6 ⟨rfl, hR6⟩
              refine ⟨(fun h => by cases h), ?_⟩
              obtain ⟨c2, B2, hM2, hS2⟩ := hR6
              have hS2w := MStep.trans (MStep.ext (Ext.refl w)) ((MStep.ext (by repeat (first | assumption | exact Ext.refl _ | refine Ext.alloc ?_ _ | refine Ext.drew ?_ | refine Ext.setB ?_ (by first | omega | (simp only [size_alloc, size_setB, size_drew]; omega)) _ | exact Ext.trans (by assumption) (by assumption) | refine Ext.trans ?_ (by assumption)))).trans hS2)
              refine WH_p (PS_assign_bool rfl) rfl ?_
              refine WH_nil ?_
              refine thn_normal ?_
              refine W_seq ?_
              refine W_seq ?_
              refine W_region rfl ?_
              refine WO_p (PS_move_bool rfl) ?_
              refine WO_p (PS_not rfl) ?_
              refine WO_nil ?_
              refine thn_normal ?_
              refine W_if rfl (fun hb58 => ?_) (fun hb58 => ?_)
              · have hb58p := hb58.h; try simp only [al_ete, al_dfn, Bool.not_eq_true', Bool.not_eq_false', al_ne, Bool.not_not, al_nn] at hb58p
                simp at hb58p --END
              · have hb58p := hb58.h; try simp only [al_ete, al_dfn, Bool.not_eq_true', Bool.not_eq_false', al_ne, Bool.not_not, al_nn] at hb58p
                refine W_skip ?_
                refine thn_normal ?_
                refine W_region rfl ?_
                refine WO_p (PS_move_ptr rfl) ?_
                refine WO_p (PS_move_ptr rfl) ?_
                refine WO_p (PS_move_int rfl) ?_
                refine WO_p (PS_buildI (k := .u64) (zs := [0, 0, 0, 0]) (ps := []) (L := [0, 0, 0, 0]) Hvad.zeroValue59 Hvad.runUnderlying59 Hvad.sizeOf26 rfl rfl rfl rfl) ?_
                refine WO_call Hvad.call155 (by rfl) (Ret.mono (settle_spec C c2 v B2 m t f _ _ _ _ _ (MS.ext hM2 (by repeat (first | assumption | exact Ext.refl _ | refine Ext.alloc ?_ _ | refine Ext.drew ?_ | refine Ext.setB ?_ (by first | omega | (simp only [size_alloc, size_setB, size_drew]; omega)) _ | exact Ext.trans (by assumption) (by assumption) | refine Ext.trans ?_ (by assumption)))) hA (by omega) (by first | (intro _; omega) | (intro h; cases h)) (by first | assumption | exact Wd0 | exact limb_wd (by omega)) (by omega)) ?_)
                rintro _ wS hRS
                have hRS2 : MRet w C B m wS v _ := MRet.trans hS2w (MRet.pre (by repeat (first | assumption | exact Ext.refl _ | refine Ext.alloc ?_ _ | refine Ext.drew ?_ | refine Ext.setB ?_ (by first | omega | (simp only [size_alloc, size_setB, size_drew]; omega)) _ | exact Ext.trans (by assumption) (by assumption) | refine Ext.trans ?_ (by assumption))) hRS)
                refine WO_nil ?_
                first | refine bodyQ_ret0 Hvad.results103 ?_ | refine bodyQ_end0 Hvad.results103 ?_
                exact ⟨v, _, hRS2, (hI.settle hf hI.rw0 hvi (fun _ h => h) (Int.le_refl _) (by omega) (by first | (intro _; omega) | (intro h; cases h)) (by omega) hc).2⟩
            · have hb51p := hb51.h; try simp only [al_ete, al_dfn, Bool.not_eq_true', Bool.not_eq_false', al_ne, Bool.not_not, al_nn] at hb51p
              refine W_skip ?_
              refine thn_normal ?_
              refine W_seq ?_
              refine W_seq ?_
              refine W_region rfl ?_
              refine WO_p (PS_move_bool rfl) ?_
              refine WO_p (PS_not rfl) ?_
              refine WO_nil ?_
              refine thn_normal ?_
              refine W_condF rfl (congrArg not rfl) ?_
              refine W_skip ?_
              refine thn_normal ?_
              refine W_region rfl ?_
              refine WO_p (PS_move_ptr rfl) ?_
              refine WO_p (PS_move_ptr rfl) ?_
              refine WO_p (PS_move_int rfl) ?_
              refine WO_p (PS_buildI (k := .u64) (zs := [0, 0, 0, 0]) (ps := []) (L := [0, 0, 0, 0]) Hvad.zeroValue59 Hvad.runUnderlying59 Hvad.sizeOf26 rfl rfl rfl rfl) ?_
              refine WO_call Hvad.call155 (by rfl) (Ret.mono (settle_spec C c v B m t f _ _ _ _ _ (MS.ext hM (by repeat (first | assumption | exact Ext.refl _ | refine Ext.alloc ?_ _ | refine Ext.drew ?_ | refine Ext.setB ?_ (by first | omega | (simp only [size_alloc, size_setB, size_drew]; omega)) _ | exact Ext.trans (by assumption) (by assumption) | refine Ext.trans ?_ (by assumption)))) hA (by omega) (by first | (intro _; omega) | (intro h; cases h)) (by first | assumption | exact Wd0 | exact limb_wd (by omega)) (by omega)) ?_)
              rintro _ wS hRS
              have hRS2 : MRet w C B m wS v _ := MRet.trans (MStep.ext (Ext.refl w)) (MRet.pre (by repeat (first | assumption | exact Ext.refl _ | refine Ext.alloc ?_ _ | refine Ext.drew ?_ | refine Ext.setB ?_ (by first | omega | (simp only [size_alloc, size_setB, size_drew]; omega)) _ | exact Ext.trans (by assumption) (by assumption) | refine Ext.trans ?_ (by assumption))) hRS)
              refine WO_nil ?_
              first | refine bodyQ_ret0 Hvad.results103 ?_ | refine bodyQ_end0 Hvad.results103 ?_
              exact ⟨v, _, hRS2, (hI.settle hf hI.rw0 hvi (fun _ h => h) (Int.le_refl _) (by omega) (by first | (intro _; omega) | (intro h; cases h)) (by omega) hc).2⟩
        · have hb45p := hb45.h; try simp only [al_ete, al_dfn, Bool.not_eq_true', Bool.not_eq_false', al_ne, Bool.not_not, al_nn] at hb45p
          refine W_seq ?_
          refine W_region rfl ?_
          refine WO_p (PS_eql rfl rfl) ?_
          refine WO_p (PS_assign_bool rfl) ?_
          refine WO_nil ?_
          refine thn_normal ?_
          refine W_if rfl (fun hb63 => ?_) (fun hb63 => ?_)
          · have hb63p := hb63.h; try simp only [al_ete, al_dfn, Bool.not_eq_true', Bool.not_eq_false', al_ne, Bool.not_not, al_nn] at hb63p
            have hin : (4 : Int) ≤ f.sp ∧ f.sp - 4 + 0 ≤ 64 := by have h := hk; rw [show o = 60 from by omega] at h; exact h
            have hfl : isFlat o = false := by rw [show o = 60 from by omega]; rfl
            have hst0 : (infoW o).2.2.1 = 0 := by rw [show o = 60 from by omega]; rfl
            have hdy := hAd.dy hfl
            obtain ⟨xd, hdr, hxd⟩ := hdy
            have hxd0 := hdr.b0
            have hacc := hdr.acc0 (by omega)
            obtain ⟨q1, v1, hv1⟩ : ∃ q1 v1, v.warmT (addrW (m.argW f 0)) = (q1, v1) := ⟨_, _, rfl⟩
            have hwm := RW.warm (A := addrW (m.argW f 0)) (s' := m.txgas - gasTo m.frames (t + 1)) hI.rw_ hvi (hI.room hM.ty) (by omega)
            rw [hv1] at hwm
            obtain ⟨hq1, hrw1, dj1, da1, hgo1, hwa1⟩ := hwm
            replace hq1 : q1 = true := hq1
            replace hrw1 : RW v1 m S (m.txgas - gasTo m.frames (t + 1)) := hrw1
            replace hgo1 : VGo v v1 dj1 da1 0 0 0 := hgo1
            subst hq1
            have hcd1 : ∀ x ∈ v1.accts, x.code.2.1 ≤ 256 := fun x hx => (hgo1.inv.cd x hx).1
            have hre := hAd.re (by rw [show o = 60 from by omega]; rfl)
            rw [show o = 60 from by omega] at hre
            replace hre : (reachW (m.argW f 1) (m.argW f 3)).2 = true ∧ 32 * (reachW (m.argW f 1) (m.argW f 3)).1 ≤ szOf m.base t := hre
            have hft := reach_fit (hwdA 3) hre.1
            have hre2 := hre.2
            refine W_seq ?_
            refine W_region rfl ?_
            refine WO_loadA _ Hvad.isAgg59 Hvad.sizeOf59 rfl (Hb.h (by repeat (first | assumption | exact Hb.newY _ _ | refine Hb.alloc ?_ | refine Hb.drew ?_ | refine Hb.ext (by assumption) ?_ | exact Hb.setSameL (by first | omega | (simp only [size_alloc, size_setB, size_drew]; omega)) | exact Hb.setSame (by assumption) | refine Hb.set (by first | omega | (simp only [size_alloc, size_setB, size_drew]; omega)) ?_ ))) (by first | omega | assumption | rfl | decide | exact Nat.le_refl _ | (simp only [size_ic, Value.cells]; omega) | simp) (Xt.h (by first | assumption | exact Xt.whole rfl rfl | exact Xt.whole rfl (by simp only [size_ic, Value.cells]; omega) | exact ⟨rfl⟩)) ?_
            refine WO_call Hvad.call189 (by rfl) (Ret.mono (addrOf_spec _ _ (by first | assumption | exact argW_wd hM.ty _ _ | exact Wd0)) ?_)
            rintro _ w189_63 ⟨hE189_63, rfl⟩
            have hz189_63 := hE189_63.1
            try simp only [size_alloc, size_setB, size_drew] at hz189_63
            refine WO_allocG Hvad.zeroValue25 ?_
            intro b9 v9 hg9 hE9 hH9 hl9
            try simp only [size_alloc, size_setB, size_drew] at hg9
            have hzz9 := hE9.1
            try simp only [size_alloc, size_setB, size_drew] at hzz9
            replace hH9 : Hb v9 b9 (.cells (ic .u8 (List.replicate 20 0)) 25 (0, 0)) := hH9
            first | refine WO_storeW Hvad.sizeOf25 rfl (v := .agg _) rfl (Hb.h (by repeat (first | assumption | exact Hb.newY _ _ | refine Hb.alloc ?_ | refine Hb.drew ?_ | refine Hb.ext (by assumption) ?_ | exact Hb.setSameL (by first | omega | (simp only [size_alloc, size_setB, size_drew]; omega)) | exact Hb.setSame (by assumption) | refine Hb.set (by first | omega | (simp only [size_alloc, size_setB, size_drew]; omega)) ?_ ))) rfl (by first | omega | assumption | rfl | decide | exact Nat.le_refl _ | (simp only [size_ic, Value.cells]; omega) | simp) (by first | omega | assumption | rfl | decide | exact Nat.le_refl _ | (simp only [size_ic, Value.cells]; omega) | simp) (by first | exact oneCell_ic | assumption) ?_ | refine WO_store Hvad.sizeOf25 rfl (v := .agg _) rfl (Hb.h (by repeat (first | assumption | exact Hb.newY _ _ | refine Hb.alloc ?_ | refine Hb.drew ?_ | refine Hb.ext (by assumption) ?_ | exact Hb.setSameL (by first | omega | (simp only [size_alloc, size_setB, size_drew]; omega)) | exact Hb.setSame (by assumption) | refine Hb.set (by first | omega | (simp only [size_alloc, size_setB, size_drew]; omega)) ?_ ))) (by first | omega | assumption | rfl | decide | exact Nat.le_refl _ | (simp only [size_ic, Value.cells]; omega) | simp) (by first | omega | assumption | rfl | decide | exact Nat.le_refl _ | (simp only [size_ic, Value.cells]; omega) | simp) (by first | exact oneCell_ic | assumption) ?_
            refine WO_nil ?_
            refine thn_normal ?_
            refine W_seq ?_
            refine W_seq ?_
            refine W_region rfl ?_
            refine WO_p (PS_move_ptr rfl) ?_
            refine WO_loadA _ Hvad.isAgg25 Hvad.sizeOf25 rfl (Hb.h (by repeat (first | assumption | exact Hb.newY _ _ | refine Hb.alloc ?_ | refine Hb.drew ?_ | refine Hb.ext (by assumption) ?_ | exact Hb.setSameL (by first | omega | (simp only [size_alloc, size_setB, size_drew]; omega)) | exact Hb.setSame (by assumption) | refine Hb.set (by first | omega | (simp only [size_alloc, size_setB, size_drew]; omega)) ?_ ))) (by first | omega | assumption | rfl | decide | exact Nat.le_refl _ | (simp only [size_ic, Value.cells]; omega) | simp) (Xt.h (by first | assumption | exact Xt.whole rfl rfl | exact Xt.whole rfl (by simp only [size_ic, Value.cells]; omega) | exact ⟨rfl⟩)) ?_
            refine WO_call Hvad.call190 (by rfl) (Ret.mono (warmAcct_spec C c v B m (addrW (m.argW f 0)) _ (MS.ext hM (by repeat (first | assumption | exact Ext.refl _ | refine Ext.alloc ?_ _ | refine Ext.drew ?_ | refine Ext.setB ?_ (by first | omega | (simp only [size_alloc, size_setB, size_drew]; omega)) _ | exact Ext.trans (by assumption) (by assumption) | refine Ext.trans ?_ (by assumption)))) (addrW_by _)) ?_)
            rintro _ w1 ⟨rfl, hR1⟩
            rw [hv1] at hR1 ⊢
            obtain ⟨c1, B1, hM1, hS1⟩ := hR1
            replace hM1 : MS w1 C c1 v1 B1 m := hM1
            have hz1 := hS1.keep.sz
            try simp only [size_alloc, size_setB, size_drew] at hz1
            have hb91 := hS1.hb (Hb.mk (b := b9) (Hb.h (by repeat (first | assumption | exact Hb.newY _ _ | refine Hb.alloc ?_ | refine Hb.drew ?_ | refine Hb.ext (by assumption) ?_ | exact Hb.setSameL (by first | omega | (simp only [size_alloc, size_setB, size_drew]; omega)) | exact Hb.setSame (by assumption) | refine Hb.set (by first | omega | (simp only [size_alloc, size_setB, size_drew]; omega)) ?_ )))) (hM.fresh (by omega))
            have hS1w := (MStep.ext (w := w) (C := C) (B := B) (m := m) (by repeat (first | assumption | exact Ext.refl _ | refine Ext.alloc ?_ _ | refine Ext.drew ?_ | refine Ext.setB ?_ (by first | omega | (simp only [size_alloc, size_setB, size_drew]; omega)) _ | exact Ext.trans (by assumption) (by assumption) | refine Ext.trans ?_ (by assumption)))).trans hS1
            have hb31 := hS1.hb (b := b3) (o := .cells (Value.agg (ic .u64 (m.argW f 0))).cells 59 (0, 0)) (Hb.mk (Hb.h (by repeat (first | assumption | exact Hb.newY _ _ | refine Hb.alloc ?_ | refine Hb.drew ?_ | refine Hb.ext (by assumption) ?_ | exact Hb.setSameL (by first | omega | (simp only [size_alloc, size_setB, size_drew]; omega)) | exact Hb.setSame (by assumption) | refine Hb.set (by first | omega | (simp only [size_alloc, size_setB, size_drew]; omega)) ?_ )))) (hM.fresh (by omega))
            have hb41 := hS1.hb (b := b4) (o := .cells (Value.agg (ic .u64 (m.argW f 1))).cells 59 (0, 0)) (Hb.mk (Hb.h (by repeat (first | assumption | exact Hb.newY _ _ | refine Hb.alloc ?_ | refine Hb.drew ?_ | refine Hb.ext (by assumption) ?_ | exact Hb.setSameL (by first | omega | (simp only [size_alloc, size_setB, size_drew]; omega)) | exact Hb.setSame (by assumption) | refine Hb.set (by first | omega | (simp only [size_alloc, size_setB, size_drew]; omega)) ?_ )))) (hM.fresh (by omega))
            have hb51 := hS1.hb (b := b5) (o := .cells (Value.agg (ic .u64 (m.argW f 2))).cells 59 (0, 0)) (Hb.mk (Hb.h (by repeat (first | assumption | exact Hb.newY _ _ | refine Hb.alloc ?_ | refine Hb.drew ?_ | refine Hb.ext (by assumption) ?_ | exact Hb.setSameL (by first | omega | (simp only [size_alloc, size_setB, size_drew]; omega)) | exact Hb.setSame (by assumption) | refine Hb.set (by first | omega | (simp only [size_alloc, size_setB, size_drew]; omega)) ?_ )))) (hM.fresh (by omega))
            have hblk1 := hM1.vs.blk
            have hcs1 := hM1.sz
            have hc_s1 := hM1.rep.s
            have hwb1 := bal_wd hM1.vs.ty (addrW (m.argW f 0))
            have hwbl1 := hwb1.1
            refine WO_p (PS_not rfl) ?_
            refine WO_nil ?_
            refine thn_normal ?_
            refine W_if rfl (fun hb68 => ?_) (fun hb68 => ?_)
            · have hb68p := hb68.h; try simp only [al_ete, al_dfn, Bool.not_eq_true', Bool.not_eq_false', al_ne, Bool.not_not, al_nn] at hb68p
              simp at hb68p --END
            · have hb68p := hb68.h; try simp only [al_ete, al_dfn, Bool.not_eq_true', Bool.not_eq_false', al_ne, Bool.not_not, al_nn] at hb68p
              refine W_skip ?_
              refine thn_normal ?_
              refine W_seq ?_
              refine W_drawE [false, false, false, false, false, false, false] hmix (by kernel_rfl) rfl ?_
              refine WH_p (PS_move_ptr rfl) rfl ?_
              refine WH_p (PS_nilCheck rfl) rfl ?_
              refine WH_p (PS_fieldAddr 0 Hvad.runUnderlying69 rfl Hvad.sizeOf53 rfl rfl) rfl ?_
              refine WH_load (.pointer _) Hvad.isAgg53 rfl (Hb.h (by repeat (first | assumption | exact Hb.newY _ _ | refine Hb.alloc ?_ | refine Hb.drew ?_ | refine Hb.ext (by assumption) ?_ | exact Hb.setSameL (by first | omega | (simp only [size_alloc, size_setB, size_drew]; omega)) | exact Hb.setSame (by assumption) | refine Hb.set (by first | omega | (simp only [size_alloc, size_setB, size_drew]; omega)) ?_ ))) (Ce.h (by first | assumption | exact ⟨rfl⟩)) ?_
              refine WH_loadA _ Hvad.isAgg25 Hvad.sizeOf25 rfl (Hb.h (by repeat (first | assumption | exact Hb.newY _ _ | refine Hb.alloc ?_ | refine Hb.drew ?_ | refine Hb.ext (by assumption) ?_ | exact Hb.setSameL (by first | omega | (simp only [size_alloc, size_setB, size_drew]; omega)) | exact Hb.setSame (by assumption) | refine Hb.set (by first | omega | (simp only [size_alloc, size_setB, size_drew]; omega)) ?_ ))) (by first | omega | assumption | rfl | decide | exact Nat.le_refl _ | (simp only [size_ic, Value.cells]; omega) | simp) (Xt.h (by first | assumption | exact Xt.whole rfl rfl | exact Xt.whole rfl (by simp only [size_ic, Value.cells]; omega) | exact ⟨rfl⟩)) ?_
              refine WH_call Hvad.call41 (by rfl) (Ret.mono (code_spec C c1 v1 B1 (bb m) _ _ (VS.ext hM1.vs (by repeat (first | assumption | exact Ext.refl _ | refine Ext.alloc ?_ _ | refine Ext.drew ?_ | refine Ext.setB ?_ (by first | omega | (simp only [size_alloc, size_setB, size_drew]; omega)) _ | exact Ext.trans (by assumption) (by assumption) | refine Ext.trans ?_ (by assumption)))) (addrW_by _) hcd1) ?_)
              rintro _ w41 ⟨hE41_68, s5, L5, rfl, hN5, hB5, hL5⟩
              refine ⟨(fun h => by cases h), ?_⟩
              have hz41_68 := hE41_68.1
              try simp only [size_alloc, size_setB, size_drew] at hz41_68
              have hsc5 := hN5.sc
              have hcap5 := hN5.cap
              have hlen5 := hN5.len
              have hcl5 : v1.codeLen (addrW (m.argW f 0)) ≤ 256 := codeLen_le hgo1.inv
              have hlt5 : s5.2.1 ≤ 256 := by omega
              replace hB5 : By8 L5 := hB5
              have hbs5 : BS _ (bb m) s5 := hN5.bs (fun b hb => Nat.lt_of_lt_of_le (bb_lt hM1 b hb) (by first | omega | (simp only [size_drew]; omega))) hB5
              refine WH_p (PS_assign_slice rfl) rfl ?_
              refine WH_nil ?_
              refine thn_normal ?_
              refine W_seq ?_
              refine W_region rfl ?_
              refine WO_loadA _ Hvad.isAgg59 Hvad.sizeOf59 rfl (Hb.h (by repeat (first | assumption | exact Hb.newY _ _ | refine Hb.alloc ?_ | refine Hb.drew ?_ | refine Hb.ext (by assumption) ?_ | exact Hb.setSameL (by first | omega | (simp only [size_alloc, size_setB, size_drew]; omega)) | exact Hb.setSame (by assumption) | refine Hb.set (by first | omega | (simp only [size_alloc, size_setB, size_drew]; omega)) ?_ ))) (by first | omega | assumption | rfl | decide | exact Nat.le_refl _ | (simp only [size_ic, Value.cells]; omega) | simp) (Xt.h (by first | assumption | exact Xt.whole rfl rfl | exact Xt.whole rfl (by simp only [size_ic, Value.cells]; omega) | exact ⟨rfl⟩)) ?_
              first | refine WO_storeW Hvad.sizeOf59 rfl (v := .agg _) rfl (Hb.h (by repeat (first | assumption | exact Hb.newY _ _ | refine Hb.alloc ?_ | refine Hb.drew ?_ | refine Hb.ext (by assumption) ?_ | exact Hb.setSameL (by first | omega | (simp only [size_alloc, size_setB, size_drew]; omega)) | exact Hb.setSame (by assumption) | refine Hb.set (by first | omega | (simp only [size_alloc, size_setB, size_drew]; omega)) ?_ ))) rfl (by first | omega | assumption | rfl | decide | exact Nat.le_refl _ | (simp only [size_ic, Value.cells]; omega) | simp) (by first | omega | assumption | rfl | decide | exact Nat.le_refl _ | (simp only [size_ic, Value.cells]; omega) | simp) (by first | exact oneCell_ic | assumption) ?_ | refine WO_store Hvad.sizeOf59 rfl (v := .agg _) rfl (Hb.h (by repeat (first | assumption | exact Hb.newY _ _ | refine Hb.alloc ?_ | refine Hb.drew ?_ | refine Hb.ext (by assumption) ?_ | exact Hb.setSameL (by first | omega | (simp only [size_alloc, size_setB, size_drew]; omega)) | exact Hb.setSame (by assumption) | refine Hb.set (by first | omega | (simp only [size_alloc, size_setB, size_drew]; omega)) ?_ ))) (by first | omega | assumption | rfl | decide | exact Nat.le_refl _ | (simp only [size_ic, Value.cells]; omega) | simp) (by first | omega | assumption | rfl | decide | exact Nat.le_refl _ | (simp only [size_ic, Value.cells]; omega) | simp) (by first | exact oneCell_ic | assumption) ?_
              refine WO_nil ?_
              refine thn_normal ?_
              refine W_seq ?_
              have hM20 : MS (setB w41 b3 (.cells (Value.agg (Value.agg (ic .u64 (m.argW f 1))).cells).cells 59 (0, 0))) C c1 v1 B1 m := MS.loc (MS.ext hM1 (by repeat (first | assumption | exact Ext.refl _ | refine Ext.alloc ?_ _ | refine Ext.drew ?_ | refine Ext.setB ?_ (by first | omega | (simp only [size_alloc, size_setB, size_drew]; omega)) _ | exact Ext.trans (by assumption) (by assumption) | refine Ext.trans ?_ (by assumption)))) (x := (Value.agg (ic .u64 (m.argW f 0))).cells) (Hb.mk (Hb.h (by repeat (first | assumption | exact Hb.newY _ _ | refine Hb.alloc ?_ | refine Hb.drew ?_ | refine Hb.ext (by assumption) ?_ | exact Hb.setSameL (by first | omega | (simp only [size_alloc, size_setB, size_drew]; omega)) | exact Hb.setSame (by assumption) | refine Hb.set (by first | omega | (simp only [size_alloc, size_setB, size_drew]; omega)) ?_ ))))
              have hS20 : MStep w (setB w41 b3 (.cells (Value.agg (Value.agg (ic .u64 (m.argW f 1))).cells).cells 59 (0, 0))) C B m B1 m := MStep.loc (hS1w.trans (MStep.ext (by repeat (first | assumption | exact Ext.refl _ | refine Ext.alloc ?_ _ | refine Ext.drew ?_ | refine Ext.setB ?_ (by first | omega | (simp only [size_alloc, size_setB, size_drew]; omega)) _ | exact Ext.trans (by assumption) (by assumption) | refine Ext.trans ?_ (by assumption))))) (by omega) _
              have hbs20 : BS (setB w41 b3 (.cells (Value.agg (Value.agg (ic .u64 (m.argW f 1))).cells).cells 59 (0, 0))) (bb m) s5 := hbs5.kt (KT.setB (c := (Value.agg (ic .u64 (m.argW f 0))).cells) (T' := 59) (fz := (0, 0)) (Hb.mk (Hb.h (by repeat (first | assumption | exact Hb.newY _ _ | refine Hb.alloc ?_ | refine Hb.drew ?_ | refine Hb.ext (by assumption) ?_ | exact Hb.setSameL (by first | omega | (simp only [size_alloc, size_setB, size_drew]; omega)) | exact Hb.setSame (by assumption) | refine Hb.set (by first | omega | (simp only [size_alloc, size_setB, size_drew]; omega)) ?_ )))) (by decide))
              refine W_region rfl ?_
              refine WO_loadA _ Hvad.isAgg59 Hvad.sizeOf59 rfl (Hb.h (by repeat (first | assumption | exact Hb.newY _ _ | refine Hb.alloc ?_ | refine Hb.drew ?_ | refine Hb.ext (by assumption) ?_ | exact Hb.setSameL (by first | omega | (simp only [size_alloc, size_setB, size_drew]; omega)) | exact Hb.setSame (by assumption) | refine Hb.set (by first | omega | (simp only [size_alloc, size_setB, size_drew]; omega)) ?_ ))) (by first | omega | assumption | rfl | decide | exact Nat.le_refl _ | (simp only [size_ic, Value.cells]; omega) | simp) (Xt.h (by first | assumption | exact Xt.whole rfl rfl | exact Xt.whole rfl (by simp only [size_ic, Value.cells]; omega) | exact ⟨rfl⟩)) ?_
              first | refine WO_storeW Hvad.sizeOf59 rfl (v := .agg _) rfl (Hb.h (by repeat (first | assumption | exact Hb.newY _ _ | refine Hb.alloc ?_ | refine Hb.drew ?_ | refine Hb.ext (by assumption) ?_ | exact Hb.setSameL (by first | omega | (simp only [size_alloc, size_setB, size_drew]; omega)) | exact Hb.setSame (by assumption) | refine Hb.set (by first | omega | (simp only [size_alloc, size_setB, size_drew]; omega)) ?_ ))) rfl (by first | omega | assumption | rfl | decide | exact Nat.le_refl _ | (simp only [size_ic, Value.cells]; omega) | simp) (by first | omega | assumption | rfl | decide | exact Nat.le_refl _ | (simp only [size_ic, Value.cells]; omega) | simp) (by first | exact oneCell_ic | assumption) ?_ | refine WO_store Hvad.sizeOf59 rfl (v := .agg _) rfl (Hb.h (by repeat (first | assumption | exact Hb.newY _ _ | refine Hb.alloc ?_ | refine Hb.drew ?_ | refine Hb.ext (by assumption) ?_ | exact Hb.setSameL (by first | omega | (simp only [size_alloc, size_setB, size_drew]; omega)) | exact Hb.setSame (by assumption) | refine Hb.set (by first | omega | (simp only [size_alloc, size_setB, size_drew]; omega)) ?_ ))) (by first | omega | assumption | rfl | decide | exact Nat.le_refl _ | (simp only [size_ic, Value.cells]; omega) | simp) (by first | omega | assumption | rfl | decide | exact Nat.le_refl _ | (simp only [size_ic, Value.cells]; omega) | simp) (by first | exact oneCell_ic | assumption) ?_
              refine WO_nil ?_
              refine thn_normal ?_
              refine W_seq ?_
              have hM21 : MS (setB (setB w41 b3 (.cells (Value.agg (Value.agg (ic .u64 (m.argW f 1))).cells).cells 59 (0, 0))) b4 (.cells (Value.agg (Value.agg (ic .u64 (m.argW f 2))).cells).cells 59 (0, 0))) C c1 v1 B1 m := MS.loc hM20 (x := (Value.agg (ic .u64 (m.argW f 1))).cells) (Hb.mk (Hb.h (by repeat (first | assumption | exact Hb.newY _ _ | refine Hb.alloc ?_ | refine Hb.drew ?_ | refine Hb.ext (by assumption) ?_ | exact Hb.setSameL (by first | omega | (simp only [size_alloc, size_setB, size_drew]; omega)) | exact Hb.setSame (by assumption) | refine Hb.set (by first | omega | (simp only [size_alloc, size_setB, size_drew]; omega)) ?_ ))))
              have hS21 := hS20.loc (b := b4) (by omega) (.cells (Value.agg (Value.agg (ic .u64 (m.argW f 2))).cells).cells 59 (0, 0))
              have hbs21 : BS (setB (setB w41 b3 (.cells (Value.agg (Value.agg (ic .u64 (m.argW f 1))).cells).cells 59 (0, 0))) b4 (.cells (Value.agg (Value.agg (ic .u64 (m.argW f 2))).cells).cells 59 (0, 0))) (bb m) s5 := hbs20.kt (KT.setB (c := (Value.agg (ic .u64 (m.argW f 1))).cells) (T' := 59) (fz := (0, 0)) (Hb.mk (Hb.h (by repeat (first | assumption | exact Hb.newY _ _ | refine Hb.alloc ?_ | refine Hb.drew ?_ | refine Hb.ext (by assumption) ?_ | exact Hb.setSameL (by first | omega | (simp only [size_alloc, size_setB, size_drew]; omega)) | exact Hb.setSame (by assumption) | refine Hb.set (by first | omega | (simp only [size_alloc, size_setB, size_drew]; omega)) ?_ )))) (by decide))
              refine W_region rfl ?_
              refine WO_p (PS_move_ptr rfl) ?_
              refine WO_p (PS_move_ptr rfl) ?_
              refine WO_call Hvad.call160 (by rfl) (Ret.mono (arg_spec C c1 v1 B1 m t f _ _ (MS.ext hM21 (by repeat (first | assumption | exact Ext.refl _ | refine Ext.alloc ?_ _ | refine Ext.drew ?_ | refine Ext.setB ?_ (by first | omega | (simp only [size_alloc, size_setB, size_drew]; omega)) _ | exact Ext.trans (by assumption) (by assumption) | refine Ext.trans ?_ (by assumption)))) hA (by omega)) ?_)
              rintro _ w22 ⟨hE160_69, rfl⟩
              have hz160_69 := hE160_69.1
              try simp only [size_alloc, size_setB, size_drew] at hz160_69
              first | refine WO_storeW Hvad.sizeOf59 rfl (v := .agg _) rfl (Hb.h (by repeat (first | assumption | exact Hb.newY _ _ | refine Hb.alloc ?_ | refine Hb.drew ?_ | refine Hb.ext (by assumption) ?_ | exact Hb.setSameL (by first | omega | (simp only [size_alloc, size_setB, size_drew]; omega)) | exact Hb.setSame (by assumption) | refine Hb.set (by first | omega | (simp only [size_alloc, size_setB, size_drew]; omega)) ?_ ))) rfl (by first | omega | assumption | rfl | decide | exact Nat.le_refl _ | (simp only [size_ic, Value.cells]; omega) | simp) (by first | omega | assumption | rfl | decide | exact Nat.le_refl _ | (simp only [size_ic, Value.cells]; omega) | simp) (by first | exact oneCell_ic | assumption) ?_ | refine WO_store Hvad.sizeOf59 rfl (v := .agg _) rfl (Hb.h (by repeat (first | assumption | exact Hb.newY _ _ | refine Hb.alloc ?_ | refine Hb.drew ?_ | refine Hb.ext (by assumption) ?_ | exact Hb.setSameL (by first | omega | (simp only [size_alloc, size_setB, size_drew]; omega)) | exact Hb.setSame (by assumption) | refine Hb.set (by first | omega | (simp only [size_alloc, size_setB, size_drew]; omega)) ?_ ))) (by first | omega | assumption | rfl | decide | exact Nat.le_refl _ | (simp only [size_ic, Value.cells]; omega) | simp) (by first | omega | assumption | rfl | decide | exact Nat.le_refl _ | (simp only [size_ic, Value.cells]; omega) | simp) (by first | exact oneCell_ic | assumption) ?_
              refine WO_nil ?_
              refine thn_normal ?_
              have hM22 : MS (setB w22 b5 (.cells (Value.agg (ic .u64 (m.argW f 3))).cells 59 (0, 0))) C c1 v1 B1 m := MS.loc (MS.ext hM21 (by repeat (first | assumption | exact Ext.refl _ | refine Ext.alloc ?_ _ | refine Ext.drew ?_ | refine Ext.setB ?_ (by first | omega | (simp only [size_alloc, size_setB, size_drew]; omega)) _ | exact Ext.trans (by assumption) (by assumption) | refine Ext.trans ?_ (by assumption)))) (x := (Value.agg (ic .u64 (m.argW f 2))).cells) (Hb.mk (Hb.h (by repeat (first | assumption | exact Hb.newY _ _ | refine Hb.alloc ?_ | refine Hb.drew ?_ | refine Hb.ext (by assumption) ?_ | exact Hb.setSameL (by first | omega | (simp only [size_alloc, size_setB, size_drew]; omega)) | exact Hb.setSame (by assumption) | refine Hb.set (by first | omega | (simp only [size_alloc, size_setB, size_drew]; omega)) ?_ ))))
              have hS22 := (hS21.trans (MStep.ext (w' := w22) (by repeat (first | assumption | exact Ext.refl _ | refine Ext.alloc ?_ _ | refine Ext.drew ?_ | refine Ext.setB ?_ (by first | omega | (simp only [size_alloc, size_setB, size_drew]; omega)) _ | exact Ext.trans (by assumption) (by assumption) | refine Ext.trans ?_ (by assumption))))).loc (b := b5) (by omega) (.cells (Value.agg (ic .u64 (m.argW f 3))).cells 59 (0, 0))
              have hbs22 : BS (setB w22 b5 (.cells (Value.agg (ic .u64 (m.argW f 3))).cells 59 (0, 0))) (bb m) s5 := (hbs21.ext (by repeat (first | assumption | exact Ext.refl _ | refine Ext.alloc ?_ _ | refine Ext.drew ?_ | refine Ext.setB ?_ (by first | omega | (simp only [size_alloc, size_setB, size_drew]; omega)) _ | exact Ext.trans (by assumption) (by assumption) | refine Ext.trans ?_ (by assumption)))).kt (KT.setB (c := (Value.agg (ic .u64 (m.argW f 2))).cells) (T' := 59) (fz := (0, 0)) (Hb.mk (Hb.h (by repeat (first | assumption | exact Hb.newY _ _ | refine Hb.alloc ?_ | refine Hb.drew ?_ | refine Hb.ext (by assumption) ?_ | exact Hb.setSameL (by first | omega | (simp only [size_alloc, size_setB, size_drew]; omega)) | exact Hb.setSame (by assumption) | refine Hb.set (by first | omega | (simp only [size_alloc, size_setB, size_drew]; omega)) ?_ )))) (by decide))
              refine W_region rfl ?_
              refine WO_p (PS_assign_int rfl) ?_
              refine WO_nil ?_
              refine inBlk_normal ?_
              refine thn_normal ?_
              refine W_seq ?_
              refine W_region rfl ?_
              refine WO_p (PS_assign_bool rfl) ?_
              refine WO_nil ?_
              refine thn_normal ?_
              refine W_seq ?_
              refine W_seq ?_
              refine W_region rfl ?_
              refine WO_p (PS_move_int rfl) ?_
              refine WO_p (PS_eql rfl rfl) ?_
              refine WO_nil ?_
              refine thn_normal ?_
              refine W_if rfl (fun hb72 => ?_) (fun hb72 => ?_)
              · have hb72p := hb72.h; try simp only [al_ete, al_dfn, Bool.not_eq_true', Bool.not_eq_false', al_ne, Bool.not_not, al_nn] at hb72p
                (exfalso; omega) --END
              · have hb72p := hb72.h; try simp only [al_ete, al_dfn, Bool.not_eq_true', Bool.not_eq_false', al_ne, Bool.not_not, al_nn] at hb72p
                skip
                refine W_seq ?_
                refine W_region rfl ?_
                refine WO_loadA _ Hvad.isAgg59 Hvad.sizeOf59 rfl (Hb.h (by repeat (first | assumption | exact Hb.newY _ _ | refine Hb.alloc ?_ | refine Hb.drew ?_ | refine Hb.ext (by assumption) ?_ | exact Hb.setSameL (by first | omega | (simp only [size_alloc, size_setB, size_drew]; omega)) | exact Hb.setSame (by assumption) | refine Hb.set (by first | omega | (simp only [size_alloc, size_setB, size_drew]; omega)) ?_ ))) (by first | omega | assumption | rfl | decide | exact Nat.le_refl _ | (simp only [size_ic, Value.cells]; omega) | simp) (Xt.h (by first | assumption | exact Xt.whole rfl rfl | exact Xt.whole rfl (by simp only [size_ic, Value.cells]; omega) | exact ⟨rfl⟩)) ?_
                refine WO_call Hvad.call131 (by rfl) (Ret.mono (isz_spec _ _ (hwdA _)) ?_)
                rintro _ w131_72 ⟨rfl, hE131_72⟩
                have hz131_72 := hE131_72.1
                try simp only [size_alloc, size_setB, size_drew] at hz131_72
                refine WO_p (PS_not rfl) ?_
                refine WO_nil ?_
                refine thn_normal ?_
                refine W_if rfl (fun hb76 => ?_) (fun hb76 => ?_)
                · have hb76p := hb76.h; try simp only [al_ete, al_dfn, Bool.not_eq_true', Bool.not_eq_false', al_ne, Bool.not_not, al_nn] at hb76p
                  have hnz : ¬ wv (m.argW f 3) = 0 := by simpa using hb76p
                  rcases hft with hft | hft
                  · exact absurd hft hnz
                  obtain ⟨bq, Lq, hbq, _⟩ := hM.buf.some (by omega)
                  refine W_drawE [false, false, false, false, true, false, false, true, false, false, false, false] hmix (by kernel_rfl) rfl ?_
                  refine WH_p (PS_move_ptr rfl) rfl ?_
                  refine WH_p (PS_nilCheck rfl) rfl ?_
                  refine WH_p (PS_fieldAddr 1 Hvad.runUnderlying69 rfl Hvad.sizeOf57 rfl rfl) rfl ?_
                  refine WH_loadA _ Hvad.isAgg59 Hvad.sizeOf59 rfl (Hb.h (by repeat (first | assumption | exact Hb.newY _ _ | refine Hb.alloc ?_ | refine Hb.drew ?_ | refine Hb.ext (by assumption) ?_ | exact Hb.setSameL (by first | omega | (simp only [size_alloc, size_setB, size_drew]; omega)) | exact Hb.setSame (by assumption) | refine Hb.set (by first | omega | (simp only [size_alloc, size_setB, size_drew]; omega)) ?_ ))) (by first | omega | assumption | rfl | decide | exact Nat.le_refl _ | (simp only [size_ic, Value.cells]; omega) | simp) (Xt.h (by first | assumption | exact Xt.whole rfl rfl | exact Xt.whole rfl (by simp only [size_ic, Value.cells]; omega) | exact ⟨rfl⟩)) ?_
                  refine WH_call Hvad.call195 (by rfl) (Ret.mono (small_spec _ _ (hwdA _)) ?_)
                  rintro _ w195_76 ⟨hE195_76, rfl⟩
                  refine ⟨fun _ => (by repeat (first | assumption | exact Ext.refl _ | refine Ext.alloc ?_ _ | refine Ext.drew ?_ | refine Ext.setB ?_ (by first | omega | (simp only [size_alloc, size_setB, size_drew]; omega)) _ | exact Ext.trans (by assumption) (by assumption) | refine Ext.trans ?_ (by assumption))), ?_⟩
                  have hz195_76 := hE195_76.1
                  try simp only [size_alloc, size_setB, size_drew] at hz195_76
                  try rw [small_nat (hwdA 0) (by omega)]
                  try rw [small_nat (hwdA 1) (by omega)]
                  try rw [small_nat (hwdA 2) (by omega)]
                  try rw [small_nat (hwdA 3) (by omega)]
                  refine WH_p (PS_move_slice rfl) rfl ?_
                  refine WH_loadA _ Hvad.isAgg59 Hvad.sizeOf59 rfl (Hb.h (by repeat (first | assumption | exact Hb.newY _ _ | refine Hb.alloc ?_ | refine Hb.drew ?_ | refine Hb.ext (by assumption) ?_ | exact Hb.setSameL (by first | omega | (simp only [size_alloc, size_setB, size_drew]; omega)) | exact Hb.setSame (by assumption) | refine Hb.set (by first | omega | (simp only [size_alloc, size_setB, size_drew]; omega)) ?_ ))) (by first | omega | assumption | rfl | decide | exact Nat.le_refl _ | (simp only [size_ic, Value.cells]; omega) | simp) (Xt.h (by first | assumption | exact Xt.whole rfl rfl | exact Xt.whole rfl (by simp only [size_ic, Value.cells]; omega) | exact ⟨rfl⟩)) ?_
                  refine WH_call Hvad.call193 (by rfl) (Ret.mono (source_spec _ _ (hwdA _)) ?_)
                  rintro _ w193_77 ⟨hE193_77, rfl⟩
                  refine ⟨fun _ => (by repeat (first | assumption | exact Ext.refl _ | refine Ext.alloc ?_ _ | refine Ext.drew ?_ | refine Ext.setB ?_ (by first | omega | (simp only [size_alloc, size_setB, size_drew]; omega)) _ | exact Ext.trans (by assumption) (by assumption) | refine Ext.trans ?_ (by assumption))), ?_⟩
                  have hz193_77 := hE193_77.1
                  try simp only [size_alloc, size_setB, size_drew] at hz193_77
                  rw [source_nat (hwdA _)]
                  refine WH_loadA _ Hvad.isAgg59 Hvad.sizeOf59 rfl (Hb.h (by repeat (first | assumption | exact Hb.newY _ _ | refine Hb.alloc ?_ | refine Hb.drew ?_ | refine Hb.ext (by assumption) ?_ | exact Hb.setSameL (by first | omega | (simp only [size_alloc, size_setB, size_drew]; omega)) | exact Hb.setSame (by assumption) | refine Hb.set (by first | omega | (simp only [size_alloc, size_setB, size_drew]; omega)) ?_ ))) (by first | omega | assumption | rfl | decide | exact Nat.le_refl _ | (simp only [size_ic, Value.cells]; omega) | simp) (Xt.h (by first | assumption | exact Xt.whole rfl rfl | exact Xt.whole rfl (by simp only [size_ic, Value.cells]; omega) | exact ⟨rfl⟩)) ?_
                  refine WH_call Hvad.call195 (by rfl) (Ret.mono (small_spec _ _ (hwdA _)) ?_)
                  rintro _ w195_78 ⟨hE195_78, rfl⟩
                  refine ⟨(fun h => by cases h), ?_⟩
                  have hz195_78 := hE195_78.1
                  try simp only [size_alloc, size_setB, size_drew] at hz195_78
                  try rw [small_nat (hwdA 0) (by omega)]
                  try rw [small_nat (hwdA 1) (by omega)]
                  try rw [small_nat (hwdA 2) (by omega)]
                  try rw [small_nat (hwdA 3) (by omega)]
                  refine WH_call Hvad.call154 (by rfl) (Ret.mono (memWrite_spec C c1 v1 B1 m t lo n (wv (m.argW f 1)).toNat (wv (m.argW f 3)).toNat bq _ s5 _ (MS.ext hM22 (by repeat (first | assumption | exact Ext.refl _ | refine Ext.alloc ?_ _ | refine Ext.drew ?_ | refine Ext.setB ?_ (by first | omega | (simp only [size_alloc, size_setB, size_drew]; omega)) _ | exact Ext.trans (by assumption) (by assumption) | refine Ext.trans ?_ (by assumption)))) hT hbq (by omega) (by omega) (BS.ext hbs22 (by repeat (first | assumption | exact Ext.refl _ | refine Ext.alloc ?_ _ | refine Ext.drew ?_ | refine Ext.setB ?_ (by first | omega | (simp only [size_alloc, size_setB, size_drew]; omega)) _ | exact Ext.trans (by assumption) (by assumption) | refine Ext.trans ?_ (by assumption)))) hcap5 (by omega)) ?_)
                  rintro _ w6 ⟨rfl, hR6⟩
                  refine ⟨(fun h => by cases h), ?_⟩
                  obtain ⟨c2, B2, hM2, hS2⟩ := hR6
                  have hS2w := MStep.trans hS22 ((MStep.ext (by repeat (first | assumption | exact Ext.refl _ | refine Ext.alloc ?_ _ | refine Ext.drew ?_ | refine Ext.setB ?_ (by first | omega | (simp only [size_alloc, size_setB, size_drew]; omega)) _ | exact Ext.trans (by assumption) (by assumption) | refine Ext.trans ?_ (by assumption)))).trans hS2)
                  refine WH_p (PS_assign_bool rfl) rfl ?_
                  refine WH_nil ?_
                  refine thn_normal ?_
                  refine W_seq ?_
                  refine W_seq ?_
                  refine W_region rfl ?_
                  refine WO_p (PS_move_bool rfl) ?_
                  refine WO_p (PS_not rfl) ?_
                  refine WO_nil ?_
                  refine thn_normal ?_
                  refine W_if rfl (fun hb83 => ?_) (fun hb83 => ?_)
                  · have hb83p := hb83.h; try simp only [al_ete, al_dfn, Bool.not_eq_true', Bool.not_eq_false', al_ne, Bool.not_not, al_nn] at hb83p
                    simp at hb83p --END
                  · have hb83p := hb83.h; try simp only [al_ete, al_dfn, Bool.not_eq_true', Bool.not_eq_false', al_ne, Bool.not_not, al_nn] at hb83p
                    refine W_skip ?_
                    refine thn_normal ?_
                    refine W_region rfl ?_
                    refine WO_p (PS_move_ptr rfl) ?_
                    refine WO_p (PS_move_ptr rfl) ?_
                    refine WO_p (PS_move_int rfl) ?_
                    refine WO_p (PS_buildI (k := .u64) (zs := [0, 0, 0, 0]) (ps := []) (L := [0, 0, 0, 0]) Hvad.zeroValue59 Hvad.runUnderlying59 Hvad.sizeOf26 rfl rfl rfl rfl) ?_
                    refine WO_call Hvad.call155 (by rfl) (Ret.mono (settle_spec C c2 v1 B2 m t f _ _ _ _ _ (MS.ext hM2 (by repeat (first | assumption | exact Ext.refl _ | refine Ext.alloc ?_ _ | refine Ext.drew ?_ | refine Ext.setB ?_ (by first | omega | (simp only [size_alloc, size_setB, size_drew]; omega)) _ | exact Ext.trans (by assumption) (by assumption) | refine Ext.trans ?_ (by assumption)))) hA (by omega) (by first | (intro _; omega) | (intro h; cases h)) (by first | assumption | exact Wd0 | exact limb_wd (by omega)) (by omega)) ?_)
                    rintro _ wS hRS
                    have hRS2 : MRet w C B m wS v1 _ := MRet.trans hS2w (MRet.pre (by repeat (first | assumption | exact Ext.refl _ | refine Ext.alloc ?_ _ | refine Ext.drew ?_ | refine Ext.setB ?_ (by first | omega | (simp only [size_alloc, size_setB, size_drew]; omega)) _ | exact Ext.trans (by assumption) (by assumption) | refine Ext.trans ?_ (by assumption))) hRS)
                    refine WO_nil ?_
                    first | refine bodyQ_ret0 Hvad.results103 ?_ | refine bodyQ_end0 Hvad.results103 ?_
                    exact ⟨v1, _, hRS2, (hI.settle hf hrw1 hgo1.inv hgo1.ent (Int.le_of_eq hgo1.nm.symm) (by omega) (by first | (intro _; omega) | (intro h; cases h)) (by omega) hc).2⟩
                · have hb76p := hb76.h; try simp only [al_ete, al_dfn, Bool.not_eq_true', Bool.not_eq_false', al_ne, Bool.not_not, al_nn] at hb76p
                  refine W_skip ?_
                  refine thn_normal ?_
                  refine W_seq ?_
                  refine W_seq ?_
                  refine W_region rfl ?_
                  refine WO_p (PS_move_bool rfl) ?_
                  refine WO_p (PS_not rfl) ?_
                  refine WO_nil ?_
                  refine thn_normal ?_
                  refine W_condF rfl (congrArg not rfl) ?_
                  refine W_skip ?_
                  refine thn_normal ?_
                  refine W_region rfl ?_
                  refine WO_p (PS_move_ptr rfl) ?_
                  refine WO_p (PS_move_ptr rfl) ?_
                  refine WO_p (PS_move_int rfl) ?_
                  refine WO_p (PS_buildI (k := .u64) (zs := [0, 0, 0, 0]) (ps := []) (L := [0, 0, 0, 0]) Hvad.zeroValue59 Hvad.runUnderlying59 Hvad.sizeOf26 rfl rfl rfl rfl) ?_
                  refine WO_call Hvad.call155 (by rfl) (Ret.mono (settle_spec C c1 v1 B1 m t f _ _ _ _ _ (MS.ext hM22 (by repeat (first | assumption | exact Ext.refl _ | refine Ext.alloc ?_ _ | refine Ext.drew ?_ | refine Ext.setB ?_ (by first | omega | (simp only [size_alloc, size_setB, size_drew]; omega)) _ | exact Ext.trans (by assumption) (by assumption) | refine Ext.trans ?_ (by assumption)))) hA (by omega) (by first | (intro _; omega) | (intro h; cases h)) (by first | assumption | exact Wd0 | exact limb_wd (by omega)) (by omega)) ?_)
                  rintro _ wS hRS
                  have hRS2 : MRet w C B m wS v1 _ := MRet.trans hS22 (MRet.pre (by repeat (first | assumption | exact Ext.refl _ | refine Ext.alloc ?_ _ | refine Ext.drew ?_ | refine Ext.setB ?_ (by first | omega | (simp only [size_alloc, size_setB, size_drew]; omega)) _ | exact Ext.trans (by assumption) (by assumption) | refine Ext.trans ?_ (by assumption))) hRS)
                  refine WO_nil ?_
                  first | refine bodyQ_ret0 Hvad.results103 ?_ | refine bodyQ_end0 Hvad.results103 ?_
                  exact ⟨v1, _, hRS2, (hI.settle hf hrw1 hgo1.inv hgo1.ent (Int.le_of_eq hgo1.nm.symm) (by omega) (by first | (intro _; omega) | (intro h; cases h)) (by omega) hc).2⟩
          · have hb63p := hb63.h; try simp only [al_ete, al_dfn, Bool.not_eq_true', Bool.not_eq_false', al_ne, Bool.not_not, al_nn] at hb63p
            have hin : (3 : Int) ≤ f.sp ∧ f.sp - 3 + 0 ≤ 64 := by have h := hk; rw [show o = 94 from by omega] at h; exact h
            refine W_skip ?_
            refine inBlk_normal ?_
            refine thn_normal ?_
            refine W_seq ?_
            refine W_region rfl ?_
            refine WO_p (PS_assign_bool rfl) ?_
            refine WO_nil ?_
            refine thn_normal ?_
            refine W_seq ?_
            refine W_seq ?_
            refine W_region rfl ?_
            refine WO_p (PS_move_int rfl) ?_
            refine WO_p (PS_eql rfl rfl) ?_
            refine WO_nil ?_
            refine thn_normal ?_
            refine W_if rfl (fun hb88 => ?_) (fun hb88 => ?_)
            · have hb88p := hb88.h; try simp only [al_ete, al_dfn, Bool.not_eq_true', Bool.not_eq_false', al_ne, Bool.not_not, al_nn] at hb88p
              skip
              refine W_drawE [false, true, false, false, false, false, false, true, false, true, false, false, false, false, false] hmix (by kernel_rfl) rfl ?_
              refine WH_loadA _ Hvad.isAgg59 Hvad.sizeOf59 rfl (Hb.h (by repeat (first | assumption | exact Hb.newY _ _ | refine Hb.alloc ?_ | refine Hb.drew ?_ | refine Hb.ext (by assumption) ?_ | exact Hb.setSameL (by first | omega | (simp only [size_alloc, size_setB, size_drew]; omega)) | exact Hb.setSame (by assumption) | refine Hb.set (by first | omega | (simp only [size_alloc, size_setB, size_drew]; omega)) ?_ ))) (by first | omega | assumption | rfl | decide | exact Nat.le_refl _ | (simp only [size_ic, Value.cells]; omega) | simp) (Xt.h (by first | assumption | exact Xt.whole rfl rfl | exact Xt.whole rfl (by simp only [size_ic, Value.cells]; omega) | exact ⟨rfl⟩)) ?_
              refine WH_call Hvad.call131 (by rfl) (Ret.mono (isz_spec _ _ (hwdA _)) ?_)
              rintro _ w131_88 ⟨rfl, hE131_88⟩
              refine ⟨fun _ => (by repeat (first | assumption | exact Ext.refl _ | refine Ext.alloc ?_ _ | refine Ext.drew ?_ | refine Ext.setB ?_ (by first | omega | (simp only [size_alloc, size_setB, size_drew]; omega)) _ | exact Ext.trans (by assumption) (by assumption) | refine Ext.trans ?_ (by assumption))), ?_⟩
              have hz131_88 := hE131_88.1
              try simp only [size_alloc, size_setB, size_drew] at hz131_88
              refine WH_p (PS_move_bool rfl) rfl ?_
              refine WH_if (t := 70) rfl (fun hb91 => ?_) (fun hb91 => ?_)
              · have hb91p := hb91.h; try simp only [al_ete, al_dfn, Bool.not_eq_true', Bool.not_eq_false', al_ne, Bool.not_not, al_nn] at hb91p
                refine WH_guardF rfl rfl hb91.h ?_
                refine WH_guardF rfl rfl hb91.h ?_
                refine WH_guardF rfl rfl hb91.h ?_
                refine WH_guardF rfl rfl hb91.h ?_
                refine WH_guardF rfl rfl hb91.h ?_
                refine WH_guardF rfl rfl hb91.h ?_
                refine WH_guardF rfl rfl hb91.h ?_
                refine WH_guardF rfl rfl hb91.h ?_
                refine WH_guardF rfl rfl hb91.h ?_
                refine WH_guardF rfl rfl hb91.h ?_
                refine WH_p (PS_pickT rfl hb91.h rfl) rfl ?_
                refine WH_p (PS_assign_bool rfl) rfl ?_
                refine WH_nil ?_
                refine thn_normal ?_
                refine W_seq ?_
                refine W_seq ?_
                refine W_region rfl ?_
                refine WO_p (PS_move_bool rfl) ?_
                refine WO_p (PS_not rfl) ?_
                refine WO_nil ?_
                refine thn_normal ?_
                refine W_condF rfl (congrArg not rfl) ?_
                refine W_skip ?_
                refine thn_normal ?_
                refine W_region rfl ?_
                refine WO_p (PS_move_ptr rfl) ?_
                refine WO_p (PS_move_ptr rfl) ?_
                refine WO_p (PS_move_int rfl) ?_
                refine WO_p (PS_buildI (k := .u64) (zs := [0, 0, 0, 0]) (ps := []) (L := [0, 0, 0, 0]) Hvad.zeroValue59 Hvad.runUnderlying59 Hvad.sizeOf26 rfl rfl rfl rfl) ?_
                refine WO_call Hvad.call155 (by rfl) (Ret.mono (settle_spec C c v B m t f _ _ _ _ _ (MS.ext hM (by repeat (first | assumption | exact Ext.refl _ | refine Ext.alloc ?_ _ | refine Ext.drew ?_ | refine Ext.setB ?_ (by first | omega | (simp only [size_alloc, size_setB, size_drew]; omega)) _ | exact Ext.trans (by assumption) (by assumption) | refine Ext.trans ?_ (by assumption)))) hA (by omega) (by first | (intro _; omega) | (intro h; cases h)) (by first | assumption | exact Wd0 | exact limb_wd (by omega)) (by omega)) ?_)
                rintro _ wS hRS
                have hRS2 : MRet w C B m wS v _ := MRet.trans (MStep.ext (Ext.refl w)) (MRet.pre (by repeat (first | assumption | exact Ext.refl _ | refine Ext.alloc ?_ _ | refine Ext.drew ?_ | refine Ext.setB ?_ (by first | omega | (simp only [size_alloc, size_setB, size_drew]; omega)) _ | exact Ext.trans (by assumption) (by assumption) | refine Ext.trans ?_ (by assumption))) hRS)
                refine WO_nil ?_
                first | refine bodyQ_ret0 Hvad.results103 ?_ | refine bodyQ_end0 Hvad.results103 ?_
                exact ⟨v, _, hRS2, (hI.settle hf hI.rw0 hvi (fun _ h => h) (Int.le_refl _) (by omega) (by first | (intro _; omega) | (intro h; cases h)) (by omega) hc).2⟩
              · have hb91p := hb91.h; try simp only [al_ete, al_dfn, Bool.not_eq_true', Bool.not_eq_false', al_ne, Bool.not_not, al_nn] at hb91p
                have hre := hAd.re (by rw [show o = 94 from by omega]; rfl)
                rw [show o = 94 from by omega] at hre
                replace hre : ((reachW (m.argW f 0) (m.argW f 2)).2 && (reachW (m.argW f 1) (m.argW f 2)).2) = true ∧ 32 * max (reachW (m.argW f 0) (m.argW f 2)).1 (reachW (m.argW f 1) (m.argW f 2)).1 ≤ szOf m.base t := hre
                have hre1 := (Bool.and_eq_true _ _).mp hre.1
                have hre2 := hre.2
                have hnz : ¬ wv (m.argW f 2) = 0 := by simpa using hb91p
                rcases reach_fit (hwdA 2) hre1.1 with hft1 | hft1
                · exact absurd hft1 hnz
                rcases reach_fit (hwdA 2) hre1.2 with hft2 | hft2
                · exact absurd hft2 hnz
                obtain ⟨bq, Lq, hbq, _⟩ := hM.buf.some (by omega)
                refine WH_guardT rfl rfl hb91.h ?_
                refine WH_p (PS_move_ptr rfl) rfl ?_
                refine WH_guardT rfl rfl hb91.h ?_
                refine WH_p (PS_nilCheck rfl) rfl ?_
                refine WH_guardT rfl rfl hb91.h ?_
                refine WH_p (PS_fieldAddr 1 Hvad.runUnderlying69 rfl Hvad.sizeOf57 rfl rfl) rfl ?_
                refine WH_guardT rfl rfl hb91.h ?_
                refine WH_loadA _ Hvad.isAgg59 Hvad.sizeOf59 rfl (Hb.h (by repeat (first | assumption | exact Hb.newY _ _ | refine Hb.alloc ?_ | refine Hb.drew ?_ | refine Hb.ext (by assumption) ?_ | exact Hb.setSameL (by first | omega | (simp only [size_alloc, size_setB, size_drew]; omega)) | exact Hb.setSame (by assumption) | refine Hb.set (by first | omega | (simp only [size_alloc, size_setB, size_drew]; omega)) ?_ ))) (by first | omega | assumption | rfl | decide | exact Nat.le_refl _ | (simp only [size_ic, Value.cells]; omega) | simp) (Xt.h (by first | assumption | exact Xt.whole rfl rfl | exact Xt.whole rfl (by simp only [size_ic, Value.cells]; omega) | exact ⟨rfl⟩)) ?_
                refine WH_guardT rfl rfl hb91.h ?_
                refine WH_call Hvad.call195 (by rfl) (Ret.mono (small_spec _ _ (hwdA _)) ?_)
                rintro _ w195_93 ⟨hE195_93, rfl⟩
                refine ⟨fun _ => (by repeat (first | assumption | exact Ext.refl _ | refine Ext.alloc ?_ _ | refine Ext.drew ?_ | refine Ext.setB ?_ (by first | omega | (simp only [size_alloc, size_setB, size_drew]; omega)) _ | exact Ext.trans (by assumption) (by assumption) | refine Ext.trans ?_ (by assumption))), ?_⟩
                have hz195_93 := hE195_93.1
                try simp only [size_alloc, size_setB, size_drew] at hz195_93
                try rw [small_nat (hwdA 0) (by omega)]
                try rw [small_nat (hwdA 1) (by omega)]
                try rw [small_nat (hwdA 2) (by omega)]
                try rw [small_nat (hwdA 3) (by omega)]
                refine WH_guardT rfl rfl hb91.h ?_
                refine WH_loadA _ Hvad.isAgg59 Hvad.sizeOf59 rfl (Hb.h (by repeat (first | assumption | exact Hb.newY _ _ | refine Hb.alloc ?_ | refine Hb.drew ?_ | refine Hb.ext (by assumption) ?_ | exact Hb.setSameL (by first | omega | (simp only [size_alloc, size_setB, size_drew]; omega)) | exact Hb.setSame (by assumption) | refine Hb.set (by first | omega | (simp only [size_alloc, size_setB, size_drew]; omega)) ?_ ))) (by first | omega | assumption | rfl | decide | exact Nat.le_refl _ | (simp only [size_ic, Value.cells]; omega) | simp) (Xt.h (by first | assumption | exact Xt.whole rfl rfl | exact Xt.whole rfl (by simp only [size_ic, Value.cells]; omega) | exact ⟨rfl⟩)) ?_
                refine WH_guardT rfl rfl hb91.h ?_
                refine WH_call Hvad.call195 (by rfl) (Ret.mono (small_spec _ _ (hwdA _)) ?_)
                rintro _ w195_94 ⟨hE195_94, rfl⟩
                refine ⟨fun _ => (by repeat (first | assumption | exact Ext.refl _ | refine Ext.alloc ?_ _ | refine Ext.drew ?_ | refine Ext.setB ?_ (by first | omega | (simp only [size_alloc, size_setB, size_drew]; omega)) _ | exact Ext.trans (by assumption) (by assumption) | refine Ext.trans ?_ (by assumption))), ?_⟩
                have hz195_94 := hE195_94.1
                try simp only [size_alloc, size_setB, size_drew] at hz195_94
                try rw [small_nat (hwdA 0) (by omega)]
                try rw [small_nat (hwdA 1) (by omega)]
                try rw [small_nat (hwdA 2) (by omega)]
                try rw [small_nat (hwdA 3) (by omega)]
                refine WH_guardT rfl rfl hb91.h ?_
                refine WH_loadA _ Hvad.isAgg59 Hvad.sizeOf59 rfl (Hb.h (by repeat (first | assumption | exact Hb.newY _ _ | refine Hb.alloc ?_ | refine Hb.drew ?_ | refine Hb.ext (by assumption) ?_ | exact Hb.setSameL (by first | omega | (simp only [size_alloc, size_setB, size_drew]; omega)) | exact Hb.setSame (by assumption) | refine Hb.set (by first | omega | (simp only [size_alloc, size_setB, size_drew]; omega)) ?_ ))) (by first | omega | assumption | rfl | decide | exact Nat.le_refl _ | (simp only [size_ic, Value.cells]; omega) | simp) (Xt.h (by first | assumption | exact Xt.whole rfl rfl | exact Xt.whole rfl (by simp only [size_ic, Value.cells]; omega) | exact ⟨rfl⟩)) ?_
                refine WH_guardT rfl rfl hb91.h ?_
                refine WH_call Hvad.call195 (by rfl) (Ret.mono (small_spec _ _ (hwdA _)) ?_)
                rintro _ w195_95 ⟨hE195_95, rfl⟩
                refine ⟨(fun h => by cases h), ?_⟩
                have hz195_95 := hE195_95.1
                try simp only [size_alloc, size_setB, size_drew] at hz195_95
                try rw [small_nat (hwdA 0) (by omega)]
                try rw [small_nat (hwdA 1) (by omega)]
                try rw [small_nat (hwdA 2) (by omega)]
                try rw [small_nat (hwdA 3) (by omega)]
                refine WH_guardT rfl rfl hb91.h ?_
                refine WH_call Hvad.call194 (by rfl) (Ret.mono (memMove_spec C c v B m t lo n (wv (m.argW f 0)).toNat (wv (m.argW f 1)).toNat (wv (m.argW f 2)).toNat bq _ (MS.ext hM (by repeat (first | assumption | exact Ext.refl _ | refine Ext.alloc ?_ _ | refine Ext.drew ?_ | refine Ext.setB ?_ (by first | omega | (simp only [size_alloc, size_setB, size_drew]; omega)) _ | exact Ext.trans (by assumption) (by assumption) | refine Ext.trans ?_ (by assumption)))) hT hbq (by omega) (by omega) (by omega)) ?_)
                rintro _ w6 ⟨rfl, hR6⟩
                refine ⟨(fun h => by cases h), ?_⟩
                obtain ⟨c2, B2, hM2, hS2⟩ := hR6
                have hS2w := MStep.trans (MStep.ext (Ext.refl w)) ((MStep.ext (by repeat (first | assumption | exact Ext.refl _ | refine Ext.alloc ?_ _ | refine Ext.drew ?_ | refine Ext.setB ?_ (by first | omega | (simp only [size_alloc, size_setB, size_drew]; omega)) _ | exact Ext.trans (by assumption) (by assumption) | refine Ext.trans ?_ (by assumption)))).trans hS2)
                refine WH_p (PS_pickF rfl hb91.h rfl) rfl ?_
                refine WH_p (PS_assign_bool rfl) rfl ?_
                refine WH_nil ?_
                refine thn_normal ?_
                refine W_seq ?_
                refine W_seq ?_
                refine W_region rfl ?_
                refine WO_p (PS_move_bool rfl) ?_
                refine WO_p (PS_not rfl) ?_
                refine WO_nil ?_
                refine thn_normal ?_
                refine W_if rfl (fun hb100 => ?_) (fun hb100 => ?_)
                · have hb100p := hb100.h; try simp only [al_ete, al_dfn, Bool.not_eq_true', Bool.not_eq_false', al_ne, Bool.not_not, al_nn] at hb100p
                  simp at hb100p --END
                · have hb100p := hb100.h; try simp only [al_ete, al_dfn, Bool.not_eq_true', Bool.not_eq_false', al_ne, Bool.not_not, al_nn] at hb100p
                  refine W_skip ?_
                  refine thn_normal ?_
                  refine W_region rfl ?_
                  refine WO_p (PS_move_ptr rfl) ?_
                  refine WO_p (PS_move_ptr rfl) ?_
                  refine WO_p (PS_move_int rfl) ?_
                  refine WO_p (PS_buildI (k := .u64) (zs := [0, 0, 0, 0]) (ps := []) (L := [0, 0, 0, 0]) Hvad.zeroValue59 Hvad.runUnderlying59 Hvad.sizeOf26 rfl rfl rfl rfl) ?_
                  refine WO_call Hvad.call155 (by rfl) (Ret.mono (settle_spec C c2 v B2 m t f _ _ _ _ _ (MS.ext hM2 (by repeat (first | assumption | exact Ext.refl _ | refine Ext.alloc ?_ _ | refine Ext.drew ?_ | refine Ext.setB ?_ (by first | omega | (simp only [size_alloc, size_setB, size_drew]; omega)) _ | exact Ext.trans (by assumption) (by assumption) | refine Ext.trans ?_ (by assumption)))) hA (by omega) (by first | (intro _; omega) | (intro h; cases h)) (by first | assumption | exact Wd0 | exact limb_wd (by omega)) (by omega)) ?_)
                  rintro _ wS hRS
                  have hRS2 : MRet w C B m wS v _ := MRet.trans hS2w (MRet.pre (by repeat (first | assumption | exact Ext.refl _ | refine Ext.alloc ?_ _ | refine Ext.drew ?_ | refine Ext.setB ?_ (by first | omega | (simp only [size_alloc, size_setB, size_drew]; omega)) _ | exact Ext.trans (by assumption) (by assumption) | refine Ext.trans ?_ (by assumption))) hRS)
                  refine WO_nil ?_
                  first | refine bodyQ_ret0 Hvad.results103 ?_ | refine bodyQ_end0 Hvad.results103 ?_
                  exact ⟨v, _, hRS2, (hI.settle hf hI.rw0 hvi (fun _ h => h) (Int.le_refl _) (by omega) (by first | (intro _; omega) | (intro h; cases h)) (by omega) hc).2⟩
            · have hb88p := hb88.h; try simp only [al_ete, al_dfn, Bool.not_eq_true', Bool.not_eq_false', al_ne, Bool.not_not, al_nn] at hb88p
              (exfalso; omega) --END

end Go.Proofs.YgvadwGreat
