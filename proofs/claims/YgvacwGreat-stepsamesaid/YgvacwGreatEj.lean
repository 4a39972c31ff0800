import Derived.Test.YgvacwGreatEi
import Derived.Test.YgvacwGreatEg
namespace Go.Proofs.YgvacwGreat
set_option linter.unusedSimpArgs false
set_option linter.unusedVariables false
def destroyW (v : V) (m : Mc) (f : Fm) : Int := (if v.isWarmA (addrW (m.argW f 0)) = true then 0 else 2600) + (if wv (v.bal f.self) ≠ 0 ∧ emptyA (v.acY (addrW (m.argW f 0))) = true then 25000 else 0)
def dynW (v : V) (m : Mc) (f : Fm) (o : Int) : Int :=
  if o = 10 then 50 * (sz (wn (m.argW f 1)) : Int)
  else if o = 32 then 6 * ((wv (m.argW f 1) + 31) / 32)
  else if o = 55 ∨ o = 57 ∨ o = 62 ∨ o = 94 then 3 * ((wv (m.argW f 2) + 31) / 32)
  else if o = 49 ∨ o = 59 ∨ o = 63 then accW v (addrW (m.argW f 0))
  else if o = 60 then accW v (addrW (m.argW f 0)) + 3 * ((wv (m.argW f 3) + 31) / 32)
  else if 160 ≤ o ∧ o ≤ 164 then 8 * wv (m.argW f 1)
  else if o = 84 then (if v.isWarmS f.self (m.argW f 0) = true then 100 else 2100)
  else if o = 85 then (sstoreW (v.sorig f.self (m.argW f 0)) (v.sval f.self (m.argW f 0)) (m.argW f 1) (!v.isWarmS f.self (m.argW f 0))).1
  else if o = 240 then 2 * ((wv (m.argW f 2) + 31) / 32)
  else if o = 245 then 8 * ((wv (m.argW f 2) + 31) / 32)
  else if o = 244 ∨ o = 250 then accW v (addrW (m.argW f 1))
  else if o = 255 then destroyW v m f
  else if o = 241 ∨ o = 242 then accW v (addrW (m.argW f 1)) + (if wv (m.argW f 2) ≠ 0 then 9000 + (if o = 241 ∧ emptyA (v.acY (addrW (m.argW f 1))) = true then 25000 else 0) else 0)
  else 0
theorem lenX_ex (W : List Int) (w : World) (hW : Wd W) (h : wv W ≤ 717280) : Ret Hvac.prog 332 #[.agg (ic .u64 W)] w fun u w' => Ext w w' ∧ u = .int .u64 (wv W) ∧ 0 ≤ wv W ∧ wv W ≤ 717280 := by
  refine Ret.mono (length_spec W w hW) ?_
  rintro u w' ⟨h1, h2⟩
  have := wv_bd hW
  refine ⟨h1, ?_, this.1, h⟩
  rw [h2]; unfold lengthW; rw [if_pos (by omega)]

set_option maxRecDepth 10000 in
theorem destroyCost_ex [Om] (C : Nat) (c : Array Value) (v : V) (B : VB) (m : Mc) (t : Nat) (f : Fm) (w : World) (hM : MS w C c v B m) (hA : FrA m t f) : Ret Hvac.prog 336 #[.pointer (some ⟨C, 0, none⟩), .pointer (some ⟨C, 1803 + t * 65, none⟩)] w fun u w' => Ext w w' ∧ u = .int .u64 (destroyW v m f) ∧ (0 ≤ destroyW v m f ∧ destroyW v m f ≤ 27600) := by
  have hA0 := hA
  have hblk := hM.vs.blk
  have hCl := hblk.lt
  have hcs := hM.sz
  have hc_s := hM.rep.s
  obtain ⟨ht6, hf, hsb, hsp⟩ := hA0
  obtain ⟨ht7, hfty, hF⟩ := hM.openF hf
  have hdb : 0 ≤ destroyW v m f ∧ destroyW v m f ≤ 27600 := by unfold destroyW; split <;> split <;> omega
  have hf_self := hF.self
  have hby := hfty.self
  have hw0 := argW_wd hM.ty f 0
  have hwb := bal_wd hM.vs.ty f.self
  have hl0 := hw0.1
  have hlb := hwb.1
  have hba := addrW_by (m.argW f 0)
  have hbal := hba.1
  refine Ret_of_W Hvac.func336 rfl rfl ?_
  refine W_seq ?_
  refine W_region rfl ?_
  refine WO_p (PS_assign_int rfl) ?_
  refine WO_nil ?_
  refine thn_normal ?_
  refine W_seq ?_
  refine W_region rfl ?_
  refine WO_p (PS_move_ptr rfl) ?_
  refine WO_p (PS_move_ptr rfl) ?_
  refine WO_call Hvac.call239 (by rfl) (Ret.mono (arg_spec C c v B m t f _ _ (MS.ext hM (by repeat (first | assumption | exact Ext.refl _ | refine Ext.alloc ?_ _ | refine Ext.drew ?_ | refine Ext.setB ?_ (by first | omega | (simp only [size_alloc, size_setB, size_drew]; omega)) _ | exact Ext.trans (by assumption) (by assumption) | refine Ext.trans ?_ (by assumption)))) hA (by omega)) ?_)
  rintro _ w239_0 ⟨hE239_0, rfl⟩
  have hz239_0 := hE239_0.1
  try simp only [size_alloc, size_setB, size_drew] at hz239_0
  refine WO_call Hvac.call267 (by rfl) (Ret.mono (addrOf_spec _ _ (by first | assumption | exact argW_wd hM.ty _ _ | exact Wd0)) ?_)
  rintro _ w267_1 ⟨hE267_1, rfl⟩
  have hz267_1 := hE267_1.1
  try simp only [size_alloc, size_setB, size_drew] at hz267_1
  refine WO_allocG Hvac.zeroValue25 ?_
  intro b5 v5 hg5 hE5 hH5 hl5
  try simp only [size_alloc, size_setB, size_drew] at hg5
  have hzz5 := hE5.1
  try simp only [size_alloc, size_setB, size_drew] at hzz5
  replace hH5 : Hb v5 b5 (.cells (ic .u8 (List.replicate 20 0)) 25 (0, 0)) := hH5
  first | refine WO_storeW Hvac.sizeOf25 rfl (v := .agg _) rfl (Hb.h (by repeat (first | assumption | exact Hb.newY _ _ | refine Hb.alloc ?_ | refine Hb.drew ?_ | refine Hb.ext (by assumption) ?_ | exact Hb.setSameL (by first | omega | (simp only [size_alloc, size_setB, size_drew]; omega)) | exact Hb.setSame (by assumption) | refine Hb.set (by first | omega | (simp only [size_alloc, size_setB, size_drew]; omega)) ?_ ))) rfl (by first | omega | assumption | rfl | decide | exact Nat.le_refl _ | (simp only [size_ic, Value.cells]; omega) | (simp; omega) | simp) (by first | omega | assumption | rfl | decide | exact Nat.le_refl _ | (simp only [size_ic, Value.cells]; omega) | (simp; omega) | simp) (by first | exact oneCell_ic | assumption | exact one_Ws2 _ | exact one_YA2 _ | exact one_YSl2 _ | exact one_YM2 _ | exact one_YT2 _ | exact one_L2 _) ?_ | refine WO_store Hvac.sizeOf25 rfl (v := .agg _) rfl (Hb.h (by repeat (first | assumption | exact Hb.newY _ _ | refine Hb.alloc ?_ | refine Hb.drew ?_ | refine Hb.ext (by assumption) ?_ | exact Hb.setSameL (by first | omega | (simp only [size_alloc, size_setB, size_drew]; omega)) | exact Hb.setSame (by assumption) | refine Hb.set (by first | omega | (simp only [size_alloc, size_setB, size_drew]; omega)) ?_ ))) (by first | omega | assumption | rfl | decide | exact Nat.le_refl _ | (simp only [size_ic, Value.cells]; omega) | (simp; omega) | simp) (by first | omega | assumption | rfl | decide | exact Nat.le_refl _ | (simp only [size_ic, Value.cells]; omega) | (simp; omega) | simp) (by first | exact oneCell_ic | assumption | exact one_Ws2 _ | exact one_YA2 _ | exact one_YSl2 _ | exact one_YM2 _ | exact one_YT2 _ | exact one_L2 _) ?_
  refine WO_nil ?_
  refine thn_normal ?_
  refine W_seq ?_
  refine W_region rfl ?_
  refine WO_p (PS_assign_int rfl) ?_
  refine WO_nil ?_
  refine thn_normal ?_
  refine W_seq ?_
  refine W_seq ?_
  refine W_drawE [false, false, false, false, false, false, false] hmix (by kernel_rfl) rfl ?_
  refine WH_p (PS_move_ptr rfl) rfl ?_
  refine WH_p (PS_nilCheck rfl) rfl ?_
  refine WH_p (PS_fieldAddr 0 Hvac.runUnderlying70 rfl Hvac.sizeOf55 rfl rfl) rfl ?_
  refine WH_load (.pointer _) Hvac.isAgg55 rfl (Hb.h (by repeat (first | assumption | exact Hb.newY _ _ | refine Hb.alloc ?_ | refine Hb.drew ?_ | refine Hb.ext (by assumption) ?_ | exact Hb.setSameL (by first | omega | (simp only [size_alloc, size_setB, size_drew]; omega)) | exact Hb.setSame (by assumption) | refine Hb.set (by first | omega | (simp only [size_alloc, size_setB, size_drew]; omega)) ?_ ))) (Ce.h (by first | assumption | exact ⟨rfl⟩)) ?_
  refine WH_loadA _ Hvac.isAgg25 Hvac.sizeOf25 rfl (Hb.h (by repeat (first | assumption | exact Hb.newY _ _ | refine Hb.alloc ?_ | refine Hb.drew ?_ | refine Hb.ext (by assumption) ?_ | exact Hb.setSameL (by first | omega | (simp only [size_alloc, size_setB, size_drew]; omega)) | exact Hb.setSame (by assumption) | refine Hb.set (by first | omega | (simp only [size_alloc, size_setB, size_drew]; omega)) ?_ ))) (by first | omega | assumption | rfl | decide | exact Nat.le_refl _ | (simp only [size_ic, Value.cells]; omega) | (simp; omega) | simp) (Xt.h (by first | assumption | exact Xt.whole rfl rfl | exact Xt.whole rfl (by assumption) | exact Xt.whole rfl (by simp only [size_ic, Value.cells]; omega) | exact ⟨rfl⟩)) ?_
  refine WH_call Hvac.call148 (by rfl) (Ret.mono (isWarmA_spec C c v B (bb m) _ _ (VS.ext hM.vs (by repeat (first | assumption | exact Ext.refl _ | refine Ext.alloc ?_ _ | refine Ext.drew ?_ | refine Ext.setB ?_ (by first | omega | (simp only [size_alloc, size_setB, size_drew]; omega)) _ | exact Ext.trans (by assumption) (by assumption) | refine Ext.trans ?_ (by assumption)))) (by first | assumption | exact addrW_by _)) ?_)
  rintro _ w148_2 ⟨rfl, hE148_2⟩
  refine ⟨(fun h => by cases h), ?_⟩
  have hz148_2 := hE148_2.1
  try simp only [size_alloc, size_setB, size_drew] at hz148_2
  refine WH_p (PS_not rfl) rfl ?_
  refine WH_nil ?_
  refine thn_normal ?_
  refine W_if rfl (fun hb6 => ?_) (fun hb6 => ?_)
  · have hb6p := hb6.h; try simp only [al_ete, al_dfn, Bool.not_eq_true', Bool.not_eq_false', al_ne, Bool.not_not, al_nn] at hb6p
    refine W_region rfl ?_
    refine WO_p (PS_assign_int rfl) ?_
    refine WO_nil ?_
    refine thn_normal ?_
    refine W_seq ?_
    refine W_seq ?_
    refine W_drawF [false, false, false, false, false, false, false, false, false, true, false] [9] [0, 1, 2, 3, 4, 5, 6, 7, 8, 10] hmix (by kernel_rfl) rfl rfl rfl ?_
    refine F_q (i := 0) rfl (by kernel_rfl) ?_
    refine WH_p (PS_move_ptr rfl) rfl ?_
    refine WH_nil ?_
    refine F_q (i := 1) rfl (by kernel_rfl) ?_
    refine WH_p (PS_nilCheck rfl) rfl ?_
    refine WH_nil ?_
    refine F_q (i := 2) rfl (by kernel_rfl) ?_
    refine WH_p (PS_fieldAddr 0 Hvac.runUnderlying70 rfl Hvac.sizeOf55 rfl rfl) rfl ?_
    refine WH_nil ?_
    refine F_q (i := 3) rfl (by kernel_rfl) ?_
    refine WH_load (.pointer _) Hvac.isAgg55 rfl (Hb.h (by repeat (first | assumption | exact Hb.newY _ _ | refine Hb.alloc ?_ | refine Hb.drew ?_ | refine Hb.ext (by assumption) ?_ | exact Hb.setSameL (by first | omega | (simp only [size_alloc, size_setB, size_drew]; omega)) | exact Hb.setSame (by assumption) | refine Hb.set (by first | omega | (simp only [size_alloc, size_setB, size_drew]; omega)) ?_ ))) (Ce.h (by first | assumption | exact ⟨rfl⟩)) ?_
    refine WH_nil ?_
    refine F_q (i := 4) rfl (by kernel_rfl) ?_
    refine WH_p (PS_move_ptr rfl) rfl ?_
    refine WH_nil ?_
    refine F_q (i := 5) rfl (by kernel_rfl) ?_
    refine WH_p (PS_nilCheck rfl) rfl ?_
    refine WH_nil ?_
    refine F_q (i := 6) rfl (by kernel_rfl) ?_
    refine WH_p (PS_fieldAddr 9 Hvac.runUnderlying66 rfl Hvac.sizeOf25 rfl rfl) rfl ?_
    refine WH_nil ?_
    refine F_q (i := 7) rfl (by kernel_rfl) ?_
    refine WH_loadA _ Hvac.isAgg25 Hvac.sizeOf25 rfl (Hb.h (by repeat (first | assumption | exact Hb.newY _ _ | refine Hb.alloc ?_ | refine Hb.drew ?_ | refine Hb.ext (by assumption) ?_ | exact Hb.setSameL (by first | omega | (simp only [size_alloc, size_setB, size_drew]; omega)) | exact Hb.setSame (by assumption) | refine Hb.set (by first | omega | (simp only [size_alloc, size_setB, size_drew]; omega)) ?_ ))) (by first | omega | assumption | rfl | decide | exact Nat.le_refl _ | (simp only [size_ic, Value.cells]; omega) | (simp; omega) | simp) (Xt.h (by first | assumption | exact Xt.whole rfl rfl | exact Xt.whole rfl (by assumption) | exact Xt.whole rfl (by simp only [size_ic, Value.cells]; omega) | exact ⟨rfl⟩)) ?_
    refine WH_nil ?_
    refine F_fork1 (i := 8) rfl rfl ?_ ?_
    · refine WH_call Hvac.call66 (by rfl) (Ret.mono (balance_spec C c v B (bb m) _ _ (VS.ext hM.vs (by repeat (first | assumption | exact Ext.refl _ | refine Ext.alloc ?_ _ | refine Ext.drew ?_ | refine Ext.setB ?_ (by first | omega | (simp only [size_alloc, size_setB, size_drew]; omega)) _ | exact Ext.trans (by assumption) (by assumption) | refine Ext.trans ?_ (by assumption)))) (by first | assumption | exact addrW_by _)) ?_)
      rintro _ w66_6 ⟨rfl, hE66_6⟩
      refine ⟨(fun h => by cases h), ?_⟩
      have hz66_6 := hE66_6.1
      try simp only [size_alloc, size_setB, size_drew] at hz66_6
      refine WH_nil ?_
      refine F_fork1B (i := 10) (by kernel_rfl) rfl ?_
      · refine WH_allocG Hvac.zeroValue61 ?_
        intro b7 v7 hg7 hE7 hH7 hl7
        try simp only [size_alloc, size_setB, size_drew] at hg7
        have hzz7 := hE7.1
        try simp only [size_alloc, size_setB, size_drew] at hzz7
        refine ⟨fun _ => (by repeat (first | assumption | exact Ext.refl _ | refine Ext.alloc ?_ _ | refine Ext.drew ?_ | refine Ext.setB ?_ (by first | omega | (simp only [size_alloc, size_setB, size_drew]; omega)) _ | exact Ext.trans (by assumption) (by assumption) | refine Ext.trans ?_ (by assumption))), ?_⟩
        refine WH_nil ?_
        refine F_q (i := 10) rfl (by kernel_rfl) ?_
        first | refine WH_storeW Hvac.sizeOf61 rfl (v := .agg _) rfl (Hb.h (by repeat (first | assumption | exact Hb.newY _ _ | refine Hb.alloc ?_ | refine Hb.drew ?_ | refine Hb.ext (by assumption) ?_ | exact Hb.setSameL (by first | omega | (simp only [size_alloc, size_setB, size_drew]; omega)) | exact Hb.setSame (by assumption) | refine Hb.set (by first | omega | (simp only [size_alloc, size_setB, size_drew]; omega)) ?_ ))) rfl (by first | omega | assumption | rfl | decide | exact Nat.le_refl _ | (simp only [size_ic, Value.cells]; omega) | (simp; omega) | simp) (by first | omega | assumption | rfl | decide | exact Nat.le_refl _ | (simp only [size_ic, Value.cells]; omega) | (simp; omega) | simp) (by first | exact oneCell_ic | assumption | exact one_Ws2 _ | exact one_YA2 _ | exact one_YSl2 _ | exact one_YM2 _ | exact one_YT2 _ | exact one_L2 _) (fun h => by cases h) ?_ | refine WH_store Hvac.sizeOf61 rfl (v := .agg _) rfl (Hb.h (by repeat (first | assumption | exact Hb.newY _ _ | refine Hb.alloc ?_ | refine Hb.drew ?_ | refine Hb.ext (by assumption) ?_ | exact Hb.setSameL (by first | omega | (simp only [size_alloc, size_setB, size_drew]; omega)) | exact Hb.setSame (by assumption) | refine Hb.set (by first | omega | (simp only [size_alloc, size_setB, size_drew]; omega)) ?_ ))) (by first | omega | assumption | rfl | decide | exact Nat.le_refl _ | (simp only [size_ic, Value.cells]; omega) | (simp; omega) | simp) (by first | omega | assumption | rfl | decide | exact Nat.le_refl _ | (simp only [size_ic, Value.cells]; omega) | (simp; omega) | simp) (by first | exact oneCell_ic | assumption | exact one_Ws2 _ | exact one_YA2 _ | exact one_YSl2 _ | exact one_YM2 _ | exact one_YT2 _ | exact one_L2 _) (fun h => by cases h) ?_
        refine WH_nil ?_
        refine F_end ?_
        refine thn_normal ?_
        refine W_seq ?_
        refine W_drawE [false, true, false, false, false, false, false, false, false, false, false] hmix (by kernel_rfl) rfl ?_
        refine WH_loadA _ Hvac.isAgg61 Hvac.sizeOf61 rfl (Hb.h (by repeat (first | assumption | exact Hb.newY _ _ | refine Hb.alloc ?_ | refine Hb.drew ?_ | refine Hb.ext (by assumption) ?_ | exact Hb.setSameL (by first | omega | (simp only [size_alloc, size_setB, size_drew]; omega)) | exact Hb.setSame (by assumption) | refine Hb.set (by first | omega | (simp only [size_alloc, size_setB, size_drew]; omega)) ?_ ))) (by first | omega | assumption | rfl | decide | exact Nat.le_refl _ | (simp only [size_ic, Value.cells]; omega) | (simp; omega) | simp) (Xt.h (by first | assumption | exact Xt.whole rfl rfl | exact Xt.whole rfl (by assumption) | exact Xt.whole rfl (by simp only [size_ic, Value.cells]; omega) | exact ⟨rfl⟩)) ?_
        refine WH_call Hvac.call223 (by rfl) (Ret.mono (isz_spec _ _ (by first | assumption | exact argW_wd hM.ty _ _ | exact Wd0)) ?_)
        rintro _ w223_7 ⟨rfl, hE223_7⟩
        refine ⟨fun _ => (by repeat (first | assumption | exact Ext.refl _ | refine Ext.alloc ?_ _ | refine Ext.drew ?_ | refine Ext.setB ?_ (by first | omega | (simp only [size_alloc, size_setB, size_drew]; omega)) _ | exact Ext.trans (by assumption) (by assumption) | refine Ext.trans ?_ (by assumption))), ?_⟩
        have hz223_7 := hE223_7.1
        try simp only [size_alloc, size_setB, size_drew] at hz223_7
        refine WH_p (PS_not rfl) rfl ?_
        refine WH_p (PS_move_bool rfl) rfl ?_
        refine WH_if (t := 31) rfl (fun hb11 => ?_) (fun hb11 => ?_)
        · have hb11p := hb11.h; try simp only [al_ete, al_dfn, Bool.not_eq_true', Bool.not_eq_false', al_ne, Bool.not_not, al_nn] at hb11p
          refine WH_guardT rfl rfl hb11.h ?_
          refine WH_p (PS_move_ptr rfl) rfl ?_
          refine WH_guardT rfl rfl hb11.h ?_
          refine WH_p (PS_nilCheck rfl) rfl ?_
          refine WH_guardT rfl rfl hb11.h ?_
          refine WH_p (PS_fieldAddr 0 Hvac.runUnderlying70 rfl Hvac.sizeOf55 rfl rfl) rfl ?_
          refine WH_guardT rfl rfl hb11.h ?_
          refine WH_load (.pointer _) Hvac.isAgg55 rfl (Hb.h (by repeat (first | assumption | exact Hb.newY _ _ | refine Hb.alloc ?_ | refine Hb.drew ?_ | refine Hb.ext (by assumption) ?_ | exact Hb.setSameL (by first | omega | (simp only [size_alloc, size_setB, size_drew]; omega)) | exact Hb.setSame (by assumption) | refine Hb.set (by first | omega | (simp only [size_alloc, size_setB, size_drew]; omega)) ?_ ))) (Ce.h (by first | assumption | exact ⟨rfl⟩)) ?_
          refine WH_guardT rfl rfl hb11.h ?_
          refine WH_loadA _ Hvac.isAgg25 Hvac.sizeOf25 rfl (Hb.h (by repeat (first | assumption | exact Hb.newY _ _ | refine Hb.alloc ?_ | refine Hb.drew ?_ | refine Hb.ext (by assumption) ?_ | exact Hb.setSameL (by first | omega | (simp only [size_alloc, size_setB, size_drew]; omega)) | exact Hb.setSame (by assumption) | refine Hb.set (by first | omega | (simp only [size_alloc, size_setB, size_drew]; omega)) ?_ ))) (by first | omega | assumption | rfl | decide | exact Nat.le_refl _ | (simp only [size_ic, Value.cells]; omega) | (simp; omega) | simp) (Xt.h (by first | assumption | exact Xt.whole rfl rfl | exact Xt.whole rfl (by assumption) | exact Xt.whole rfl (by simp only [size_ic, Value.cells]; omega) | exact ⟨rfl⟩)) ?_
          refine WH_guardT rfl rfl hb11.h ?_
          refine WH_call Hvac.call269 (by rfl) (Ret.mono (isEmpty_ex C c v B (bb m) _ _ (VS.ext hM.vs (by repeat (first | assumption | exact Ext.refl _ | refine Ext.alloc ?_ _ | refine Ext.drew ?_ | refine Ext.setB ?_ (by first | omega | (simp only [size_alloc, size_setB, size_drew]; omega)) _ | exact Ext.trans (by assumption) (by assumption) | refine Ext.trans ?_ (by assumption)))) (by first | assumption | exact addrW_by _)) ?_)
          rintro _ w269_11 ⟨hE269_11, rfl⟩
          refine ⟨(fun h => by cases h), ?_⟩
          have hz269_11 := hE269_11.1
          try simp only [size_alloc, size_setB, size_drew] at hz269_11
          refine WH_p (PS_pickT rfl hb11.h rfl) rfl ?_
          refine WH_nil ?_
          refine thn_normal ?_
          refine W_if rfl (fun hb13 => ?_) (fun hb13 => ?_)
          · have hb13p := hb13.h; try simp only [al_ete, al_dfn, Bool.not_eq_true', Bool.not_eq_false', al_ne, Bool.not_not, al_nn] at hb13p
            refine W_region rfl ?_
            refine WO_p (PS_move_int rfl) ?_
            refine WO_p (PS_add_u64n rfl rfl (by omega) (by omega)) ?_
            refine WO_p (PS_assign_int rfl) ?_
            refine WO_nil ?_
            refine thn_normal ?_
            refine W_seq ?_
            refine W_region rfl ?_
            refine WO_p (PS_move_int rfl) ?_
            refine WO_p (PS_assign_int rfl) ?_
            refine WO_nil ?_
            refine thn_normal ?_
            refine W_ret ?_
            refine bodyQ_ret1 Hvac.results336 rfl (.int _ _) rfl ?_
            refine ⟨(by repeat (first | assumption | exact Ext.refl _ | refine Ext.alloc ?_ _ | refine Ext.drew ?_ | refine Ext.setB ?_ (by first | omega | (simp only [size_alloc, size_setB, size_drew]; omega)) _ | refine Ext.trans ?_ (by assumption))), congrArg (Value.int .u64) ?_, hdb⟩
            clear hdb
            unfold destroyW
            simp_all
          · have hb13p := hb13.h; try simp only [al_ete, al_dfn, Bool.not_eq_true', Bool.not_eq_false', al_ne, Bool.not_not, al_nn] at hb13p
            refine W_skip ?_
            refine thn_normal ?_
            refine W_seq ?_
            refine W_region rfl ?_
            refine WO_p (PS_move_int rfl) ?_
            refine WO_p (PS_assign_int rfl) ?_
            refine WO_nil ?_
            refine thn_normal ?_
            refine W_ret ?_
            refine bodyQ_ret1 Hvac.results336 rfl (.int _ _) rfl ?_
            refine ⟨(by repeat (first | assumption | exact Ext.refl _ | refine Ext.alloc ?_ _ | refine Ext.drew ?_ | refine Ext.setB ?_ (by first | omega | (simp only [size_alloc, size_setB, size_drew]; omega)) _ | refine Ext.trans ?_ (by assumption))), congrArg (Value.int .u64) ?_, hdb⟩
            clear hdb
            unfold destroyW
            simp_all
        · have hb11p := hb11.h; try simp only [al_ete, al_dfn, Bool.not_eq_true', Bool.not_eq_false', al_ne, Bool.not_not, al_nn] at hb11p
          refine WH_guardF rfl rfl hb11.h ?_
          refine WH_guardF rfl rfl hb11.h ?_
          refine WH_guardF rfl rfl hb11.h ?_
          refine WH_guardF rfl rfl hb11.h ?_
          refine WH_guardF rfl rfl hb11.h ?_
          refine WH_guardF rfl rfl hb11.h ?_
          refine WH_p (PS_pickF rfl hb11.h rfl) rfl ?_
          refine WH_nil ?_
          refine thn_normal ?_
          refine W_condF rfl rfl ?_
          refine W_skip ?_
          refine thn_normal ?_
          refine W_seq ?_
          refine W_region rfl ?_
          refine WO_p (PS_move_int rfl) ?_
          refine WO_p (PS_assign_int rfl) ?_
          refine WO_nil ?_
          refine thn_normal ?_
          refine W_ret ?_
          refine bodyQ_ret1 Hvac.results336 rfl (.int _ _) rfl ?_
          refine ⟨(by repeat (first | assumption | exact Ext.refl _ | refine Ext.alloc ?_ _ | refine Ext.drew ?_ | refine Ext.setB ?_ (by first | omega | (simp only [size_alloc, size_setB, size_drew]; omega)) _ | refine Ext.trans ?_ (by assumption))), congrArg (Value.int .u64) ?_, hdb⟩
          clear hdb
          unfold destroyW
          simp_all
    · refine WH_allocG Hvac.zeroValue61 ?_
      intro b7 v7 hg7 hE7 hH7 hl7
      try simp only [size_alloc, size_setB, size_drew] at hg7
      have hzz7 := hE7.1
      try simp only [size_alloc, size_setB, size_drew] at hzz7
      refine ⟨fun _ => (by repeat (first | assumption | exact Ext.refl _ | refine Ext.alloc ?_ _ | refine Ext.drew ?_ | refine Ext.setB ?_ (by first | omega | (simp only [size_alloc, size_setB, size_drew]; omega)) _ | exact Ext.trans (by assumption) (by assumption) | refine Ext.trans ?_ (by assumption))), ?_⟩
      refine WH_nil ?_
      refine F_q (i := 8) rfl (by kernel_rfl) ?_
      refine WH_call Hvac.call66 (by rfl) (Ret.mono (balance_spec C c v B (bb m) _ _ (VS.ext hM.vs (by repeat (first | assumption | exact Ext.refl _ | refine Ext.alloc ?_ _ | refine Ext.drew ?_ | refine Ext.setB ?_ (by first | omega | (simp only [size_alloc, size_setB, size_drew]; omega)) _ | exact Ext.trans (by assumption) (by assumption) | refine Ext.trans ?_ (by assumption)))) (by first | assumption | exact addrW_by _)) ?_)
      rintro _ w66_13 ⟨rfl, hE66_13⟩
      refine ⟨(fun h => by cases h), ?_⟩
      have hz66_13 := hE66_13.1
      try simp only [size_alloc, size_setB, size_drew] at hz66_13
      refine WH_nil ?_
      refine F_q (i := 10) rfl (by kernel_rfl) ?_
      first | refine WH_storeW Hvac.sizeOf61 rfl (v := .agg _) rfl (Hb.h (by repeat (first | assumption | exact Hb.newY _ _ | refine Hb.alloc ?_ | refine Hb.drew ?_ | refine Hb.ext (by assumption) ?_ | exact Hb.setSameL (by first | omega | (simp only [size_alloc, size_setB, size_drew]; omega)) | exact Hb.setSame (by assumption) | refine Hb.set (by first | omega | (simp only [size_alloc, size_setB, size_drew]; omega)) ?_ ))) rfl (by first | omega | assumption | rfl | decide | exact Nat.le_refl _ | (simp only [size_ic, Value.cells]; omega) | (simp; omega) | simp) (by first | omega | assumption | rfl | decide | exact Nat.le_refl _ | (simp only [size_ic, Value.cells]; omega) | (simp; omega) | simp) (by first | exact oneCell_ic | assumption | exact one_Ws2 _ | exact one_YA2 _ | exact one_YSl2 _ | exact one_YM2 _ | exact one_YT2 _ | exact one_L2 _) (fun h => by cases h) ?_ | refine WH_store Hvac.sizeOf61 rfl (v := .agg _) rfl (Hb.h (by repeat (first | assumption | exact Hb.newY _ _ | refine Hb.alloc ?_ | refine Hb.drew ?_ | refine Hb.ext (by assumption) ?_ | exact Hb.setSameL (by first | omega | (simp only [size_alloc, size_setB, size_drew]; omega)) | exact Hb.setSame (by assumption) | refine Hb.set (by first | omega | (simp only [size_alloc, size_setB, size_drew]; omega)) ?_ ))) (by first | omega | assumption | rfl | decide | exact Nat.le_refl _ | (simp only [size_ic, Value.cells]; omega) | (simp; omega) | simp) (by first | omega | assumption | rfl | decide | exact Nat.le_refl _ | (simp only [size_ic, Value.cells]; omega) | (simp; omega) | simp) (by first | exact oneCell_ic | assumption | exact one_Ws2 _ | exact one_YA2 _ | exact one_YSl2 _ | exact one_YM2 _ | exact one_YT2 _ | exact one_L2 _) (fun h => by cases h) ?_
      refine WH_nil ?_
      refine F_end ?_
      refine thn_normal ?_
      refine W_seq ?_
      refine W_drawE [false, true, false, false, false, false, false, false, false, false, false] hmix (by kernel_rfl) rfl ?_
      refine WH_loadA _ Hvac.isAgg61 Hvac.sizeOf61 rfl (Hb.h (by repeat (first | assumption | exact Hb.newY _ _ | refine Hb.alloc ?_ | refine Hb.drew ?_ | refine Hb.ext (by assumption) ?_ | exact Hb.setSameL (by first | omega | (simp only [size_alloc, size_setB, size_drew]; omega)) | exact Hb.setSame (by assumption) | refine Hb.set (by first | omega | (simp only [size_alloc, size_setB, size_drew]; omega)) ?_ ))) (by first | omega | assumption | rfl | decide | exact Nat.le_refl _ | (simp only [size_ic, Value.cells]; omega) | (simp; omega) | simp) (Xt.h (by first | assumption | exact Xt.whole rfl rfl | exact Xt.whole rfl (by assumption) | exact Xt.whole rfl (by simp only [size_ic, Value.cells]; omega) | exact ⟨rfl⟩)) ?_
      refine WH_call Hvac.call223 (by rfl) (Ret.mono (isz_spec _ _ (by first | assumption | exact argW_wd hM.ty _ _ | exact Wd0)) ?_)
      rintro _ w223_14 ⟨rfl, hE223_14⟩
      refine ⟨fun _ => (by repeat (first | assumption | exact Ext.refl _ | refine Ext.alloc ?_ _ | refine Ext.drew ?_ | refine Ext.setB ?_ (by first | omega | (simp only [size_alloc, size_setB, size_drew]; omega)) _ | exact Ext.trans (by assumption) (by assumption) | refine Ext.trans ?_ (by assumption))), ?_⟩
      have hz223_14 := hE223_14.1
      try simp only [size_alloc, size_setB, size_drew] at hz223_14
      refine WH_p (PS_not rfl) rfl ?_
      refine WH_p (PS_move_bool rfl) rfl ?_
      refine WH_if (t := 31) rfl (fun hb18 => ?_) (fun hb18 => ?_)
      · have hb18p := hb18.h; try simp only [al_ete, al_dfn, Bool.not_eq_true', Bool.not_eq_false', al_ne, Bool.not_not, al_nn] at hb18p
        refine WH_guardT rfl rfl hb18.h ?_
        refine WH_p (PS_move_ptr rfl) rfl ?_
        refine WH_guardT rfl rfl hb18.h ?_
        refine WH_p (PS_nilCheck rfl) rfl ?_
        refine WH_guardT rfl rfl hb18.h ?_
        refine WH_p (PS_fieldAddr 0 Hvac.runUnderlying70 rfl Hvac.sizeOf55 rfl rfl) rfl ?_
        refine WH_guardT rfl rfl hb18.h ?_
        refine WH_load (.pointer _) Hvac.isAgg55 rfl (Hb.h (by repeat (first | assumption | exact Hb.newY _ _ | refine Hb.alloc ?_ | refine Hb.drew ?_ | refine Hb.ext (by assumption) ?_ | exact Hb.setSameL (by first | omega | (simp only [size_alloc, size_setB, size_drew]; omega)) | exact Hb.setSame (by assumption) | refine Hb.set (by first | omega | (simp only [size_alloc, size_setB, size_drew]; omega)) ?_ ))) (Ce.h (by first | assumption | exact ⟨rfl⟩)) ?_
        refine WH_guardT rfl rfl hb18.h ?_
        refine WH_loadA _ Hvac.isAgg25 Hvac.sizeOf25 rfl (Hb.h (by repeat (first | assumption | exact Hb.newY _ _ | refine Hb.alloc ?_ | refine Hb.drew ?_ | refine Hb.ext (by assumption) ?_ | exact Hb.setSameL (by first | omega | (simp only [size_alloc, size_setB, size_drew]; omega)) | exact Hb.setSame (by assumption) | refine Hb.set (by first | omega | (simp only [size_alloc, size_setB, size_drew]; omega)) ?_ ))) (by first | omega | assumption | rfl | decide | exact Nat.le_refl _ | (simp only [size_ic, Value.cells]; omega) | (simp; omega) | simp) (Xt.h (by first | assumption | exact Xt.whole rfl rfl | exact Xt.whole rfl (by assumption) | exact Xt.whole rfl (by simp only [size_ic, Value.cells]; omega) | exact ⟨rfl⟩)) ?_
        refine WH_guardT rfl rfl hb18.h ?_
        refine WH_call Hvac.call269 (by rfl) (Ret.mono (isEmpty_ex C c v B (bb m) _ _ (VS.ext hM.vs (by repeat (first | assumption | exact Ext.refl _ | refine Ext.alloc ?_ _ | refine Ext.drew ?_ | refine Ext.setB ?_ (by first | omega | (simp only [size_alloc, size_setB, size_drew]; omega)) _ | exact Ext.trans (by assumption) (by assumption) | refine Ext.trans ?_ (by assumption)))) (by first | assumption | exact addrW_by _)) ?_)
        rintro _ w269_18 ⟨hE269_18, rfl⟩
        refine ⟨(fun h => by cases h), ?_⟩
        have hz269_18 := hE269_18.1
        try simp only [size_alloc, size_setB, size_drew] at hz269_18
        refine WH_p (PS_pickT rfl hb18.h rfl) rfl ?_
        refine WH_nil ?_
        refine thn_normal ?_
        refine W_if rfl (fun hb20 => ?_) (fun hb20 => ?_)
        · have hb20p := hb20.h; try simp only [al_ete, al_dfn, Bool.not_eq_true', Bool.not_eq_false', al_ne, Bool.not_not, al_nn] at hb20p
          refine W_region rfl ?_
          refine WO_p (PS_move_int rfl) ?_
          refine WO_p (PS_add_u64n rfl rfl (by omega) (by omega)) ?_
          refine WO_p (PS_assign_int rfl) ?_
          refine WO_nil ?_
          refine thn_normal ?_
          refine W_seq ?_
          refine W_region rfl ?_
          refine WO_p (PS_move_int rfl) ?_
          refine WO_p (PS_assign_int rfl) ?_
          refine WO_nil ?_
          refine thn_normal ?_
          refine W_ret ?_
          refine bodyQ_ret1 Hvac.results336 rfl (.int _ _) rfl ?_
          refine ⟨(by repeat (first | assumption | exact Ext.refl _ | refine Ext.alloc ?_ _ | refine Ext.drew ?_ | refine Ext.setB ?_ (by first | omega | (simp only [size_alloc, size_setB, size_drew]; omega)) _ | refine Ext.trans ?_ (by assumption))), congrArg (Value.int .u64) ?_, hdb⟩
          clear hdb
          unfold destroyW
          simp_all
        · have hb20p := hb20.h; try simp only [al_ete, al_dfn, Bool.not_eq_true', Bool.not_eq_false', al_ne, Bool.not_not, al_nn] at hb20p
          refine W_skip ?_
          refine thn_normal ?_
          refine W_seq ?_
          refine W_region rfl ?_
          refine WO_p (PS_move_int rfl) ?_
          refine WO_p (PS_assign_int rfl) ?_
          refine WO_nil ?_
          refine thn_normal ?_
          refine W_ret ?_
          refine bodyQ_ret1 Hvac.results336 rfl (.int _ _) rfl ?_
          refine ⟨(by repeat (first | assumption | exact Ext.refl _ | refine Ext.alloc ?_ _ | refine Ext.drew ?_ | refine Ext.setB ?_ (by first | omega | (simp only [size_alloc, size_setB, size_drew]; omega)) _ | refine Ext.trans ?_ (by assumption))), congrArg (Value.int .u64) ?_, hdb⟩
          clear hdb
          unfold destroyW
          simp_all
      · have hb18p := hb18.h; try simp only [al_ete, al_dfn, Bool.not_eq_true', Bool.not_eq_false', al_ne, Bool.not_not, al_nn] at hb18p
        refine WH_guardF rfl rfl hb18.h ?_
        refine WH_guardF rfl rfl hb18.h ?_
        refine WH_guardF rfl rfl hb18.h ?_
        refine WH_guardF rfl rfl hb18.h ?_
        refine WH_guardF rfl rfl hb18.h ?_
        refine WH_guardF rfl rfl hb18.h ?_
        refine WH_p (PS_pickF rfl hb18.h rfl) rfl ?_
        refine WH_nil ?_
        refine thn_normal ?_
        refine W_condF rfl rfl ?_
        refine W_skip ?_
        refine thn_normal ?_
        refine W_seq ?_
        refine W_region rfl ?_
        refine WO_p (PS_move_int rfl) ?_
        refine WO_p (PS_assign_int rfl) ?_
        refine WO_nil ?_
        refine thn_normal ?_
        refine W_ret ?_
        refine bodyQ_ret1 Hvac.results336 rfl (.int _ _) rfl ?_
        refine ⟨(by repeat (first | assumption | exact Ext.refl _ | refine Ext.alloc ?_ _ | refine Ext.drew ?_ | refine Ext.setB ?_ (by first | omega | (simp only [size_alloc, size_setB, size_drew]; omega)) _ | refine Ext.trans ?_ (by assumption))), congrArg (Value.int .u64) ?_, hdb⟩
        clear hdb
        unfold destroyW
        simp_all
  · have hb6p := hb6.h; try simp only [al_ete, al_dfn, Bool.not_eq_true', Bool.not_eq_false', al_ne, Bool.not_not, al_nn] at hb6p
    refine W_skip ?_
    refine thn_normal ?_
    refine W_seq ?_
    refine W_seq ?_
    refine W_drawF [false, false, false, false, false, false, false, false, false, true, false] [9] [0, 1, 2, 3, 4, 5, 6, 7, 8, 10] hmix (by kernel_rfl) rfl rfl rfl ?_
    refine F_q (i := 0) rfl (by kernel_rfl) ?_
    refine WH_p (PS_move_ptr rfl) rfl ?_
    refine WH_nil ?_
    refine F_q (i := 1) rfl (by kernel_rfl) ?_
    refine WH_p (PS_nilCheck rfl) rfl ?_
    refine WH_nil ?_
    refine F_q (i := 2) rfl (by kernel_rfl) ?_
    refine WH_p (PS_fieldAddr 0 Hvac.runUnderlying70 rfl Hvac.sizeOf55 rfl rfl) rfl ?_
    refine WH_nil ?_
    refine F_q (i := 3) rfl (by kernel_rfl) ?_
    refine WH_load (.pointer _) Hvac.isAgg55 rfl (Hb.h (by repeat (first | assumption | exact Hb.newY _ _ | refine Hb.alloc ?_ | refine Hb.drew ?_ | refine Hb.ext (by assumption) ?_ | exact Hb.setSameL (by first | omega | (simp only [size_alloc, size_setB, size_drew]; omega)) | exact Hb.setSame (by assumption) | refine Hb.set (by first | omega | (simp only [size_alloc, size_setB, size_drew]; omega)) ?_ ))) (Ce.h (by first | assumption | exact ⟨rfl⟩)) ?_
    refine WH_nil ?_
    refine F_q (i := 4) rfl (by kernel_rfl) ?_
    refine WH_p (PS_move_ptr rfl) rfl ?_
    refine WH_nil ?_
    refine F_q (i := 5) rfl (by kernel_rfl) ?_
    refine WH_p (PS_nilCheck rfl) rfl ?_
    refine WH_nil ?_
    refine F_q (i := 6) rfl (by kernel_rfl) ?_
    refine WH_p (PS_fieldAddr 9 Hvac.runUnderlying66 rfl Hvac.sizeOf25 rfl rfl) rfl ?_
    refine WH_nil ?_
    refine F_q (i := 7) rfl (by kernel_rfl) ?_
    refine WH_loadA _ Hvac.isAgg25 Hvac.sizeOf25 rfl (Hb.h (by repeat (first | assumption | exact Hb.newY _ _ | refine Hb.alloc ?_ | refine Hb.drew ?_ | refine Hb.ext (by assumption) ?_ | exact Hb.setSameL (by first | omega | (simp only [size_alloc, size_setB, size_drew]; omega)) | exact Hb.setSame (by assumption) | refine Hb.set (by first | omega | (simp only [size_alloc, size_setB, size_drew]; omega)) ?_ ))) (by first | omega | assumption | rfl | decide | exact Nat.le_refl _ | (simp only [size_ic, Value.cells]; omega) | (simp; omega) | simp) (Xt.h (by first | assumption | exact Xt.whole rfl rfl | exact Xt.whole rfl (by assumption) | exact Xt.whole rfl (by simp only [size_ic, Value.cells]; omega) | exact ⟨rfl⟩)) ?_
    refine WH_nil ?_
    refine F_fork1 (i := 8) rfl rfl ?_ ?_
    · refine WH_call Hvac.call66 (by rfl) (Ret.mono (balance_spec C c v B (bb m) _ _ (VS.ext hM.vs (by repeat (first | assumption | exact Ext.refl _ | refine Ext.alloc ?_ _ | refine Ext.drew ?_ | refine Ext.setB ?_ (by first | omega | (simp only [size_alloc, size_setB, size_drew]; omega)) _ | exact Ext.trans (by assumption) (by assumption) | refine Ext.trans ?_ (by assumption)))) (by first | assumption | exact addrW_by _)) ?_)
      rintro _ w66_20 ⟨rfl, hE66_20⟩
      refine ⟨(fun h => by cases h), ?_⟩
      have hz66_20 := hE66_20.1
      try simp only [size_alloc, size_setB, size_drew] at hz66_20
      refine WH_nil ?_
      refine F_fork1B (i := 10) (by kernel_rfl) rfl ?_
      · refine WH_allocG Hvac.zeroValue61 ?_
        intro b7 v7 hg7 hE7 hH7 hl7
        try simp only [size_alloc, size_setB, size_drew] at hg7
        have hzz7 := hE7.1
        try simp only [size_alloc, size_setB, size_drew] at hzz7
        refine ⟨fun _ => (by repeat (first | assumption | exact Ext.refl _ | refine Ext.alloc ?_ _ | refine Ext.drew ?_ | refine Ext.setB ?_ (by first | omega | (simp only [size_alloc, size_setB, size_drew]; omega)) _ | exact Ext.trans (by assumption) (by assumption) | refine Ext.trans ?_ (by assumption))), ?_⟩
        refine WH_nil ?_
        refine F_q (i := 10) rfl (by kernel_rfl) ?_
        first | refine WH_storeW Hvac.sizeOf61 rfl (v := .agg _) rfl (Hb.h (by repeat (first | assumption | exact Hb.newY _ _ | refine Hb.alloc ?_ | refine Hb.drew ?_ | refine Hb.ext (by assumption) ?_ | exact Hb.setSameL (by first | omega | (simp only [size_alloc, size_setB, size_drew]; omega)) | exact Hb.setSame (by assumption) | refine Hb.set (by first | omega | (simp only [size_alloc, size_setB, size_drew]; omega)) ?_ ))) rfl (by first | omega | assumption | rfl | decide | exact Nat.le_refl _ | (simp only [size_ic, Value.cells]; omega) | (simp; omega) | simp) (by first | omega | assumption | rfl | decide | exact Nat.le_refl _ | (simp only [size_ic, Value.cells]; omega) | (simp; omega) | simp) (by first | exact oneCell_ic | assumption | exact one_Ws2 _ | exact one_YA2 _ | exact one_YSl2 _ | exact one_YM2 _ | exact one_YT2 _ | exact one_L2 _) (fun h => by cases h) ?_ | refine WH_store Hvac.sizeOf61 rfl (v := .agg _) rfl (Hb.h (by repeat (first | assumption | exact Hb.newY _ _ | refine Hb.alloc ?_ | refine Hb.drew ?_ | refine Hb.ext (by assumption) ?_ | exact Hb.setSameL (by first | omega | (simp only [size_alloc, size_setB, size_drew]; omega)) | exact Hb.setSame (by assumption) | refine Hb.set (by first | omega | (simp only [size_alloc, size_setB, size_drew]; omega)) ?_ ))) (by first | omega | assumption | rfl | decide | exact Nat.le_refl _ | (simp only [size_ic, Value.cells]; omega) | (simp; omega) | simp) (by first | omega | assumption | rfl | decide | exact Nat.le_refl _ | (simp only [size_ic, Value.cells]; omega) | (simp; omega) | simp) (by first | exact oneCell_ic | assumption | exact one_Ws2 _ | exact one_YA2 _ | exact one_YSl2 _ | exact one_YM2 _ | exact one_YT2 _ | exact one_L2 _) (fun h => by cases h) ?_
        refine WH_nil ?_
        refine F_end ?_
        refine thn_normal ?_
        refine W_seq ?_
        refine W_drawE [false, true, false, false, false, false, false, false, false, false, false] hmix (by kernel_rfl) rfl ?_
        refine WH_loadA _ Hvac.isAgg61 Hvac.sizeOf61 rfl (Hb.h (by repeat (first | assumption | exact Hb.newY _ _ | refine Hb.alloc ?_ | refine Hb.drew ?_ | refine Hb.ext (by assumption) ?_ | exact Hb.setSameL (by first | omega | (simp only [size_alloc, size_setB, size_drew]; omega)) | exact Hb.setSame (by assumption) | refine Hb.set (by first | omega | (simp only [size_alloc, size_setB, size_drew]; omega)) ?_ ))) (by first | omega | assumption | rfl | decide | exact Nat.le_refl _ | (simp only [size_ic, Value.cells]; omega) | (simp; omega) | simp) (Xt.h (by first | assumption | exact Xt.whole rfl rfl | exact Xt.whole rfl (by assumption) | exact Xt.whole rfl (by simp only [size_ic, Value.cells]; omega) | exact ⟨rfl⟩)) ?_
        refine WH_call Hvac.call223 (by rfl) (Ret.mono (isz_spec _ _ (by first | assumption | exact argW_wd hM.ty _ _ | exact Wd0)) ?_)
        rintro _ w223_21 ⟨rfl, hE223_21⟩
        refine ⟨fun _ => (by repeat (first | assumption | exact Ext.refl _ | refine Ext.alloc ?_ _ | refine Ext.drew ?_ | refine Ext.setB ?_ (by first | omega | (simp only [size_alloc, size_setB, size_drew]; omega)) _ | exact Ext.trans (by assumption) (by assumption) | refine Ext.trans ?_ (by assumption))), ?_⟩
        have hz223_21 := hE223_21.1
        try simp only [size_alloc, size_setB, size_drew] at hz223_21
        refine WH_p (PS_not rfl) rfl ?_
        refine WH_p (PS_move_bool rfl) rfl ?_
        refine WH_if (t := 31) rfl (fun hb25 => ?_) (fun hb25 => ?_)
        · have hb25p := hb25.h; try simp only [al_ete, al_dfn, Bool.not_eq_true', Bool.not_eq_false', al_ne, Bool.not_not, al_nn] at hb25p
          refine WH_guardT rfl rfl hb25.h ?_
          refine WH_p (PS_move_ptr rfl) rfl ?_
          refine WH_guardT rfl rfl hb25.h ?_
          refine WH_p (PS_nilCheck rfl) rfl ?_
          refine WH_guardT rfl rfl hb25.h ?_
          refine WH_p (PS_fieldAddr 0 Hvac.runUnderlying70 rfl Hvac.sizeOf55 rfl rfl) rfl ?_
          refine WH_guardT rfl rfl hb25.h ?_
          refine WH_load (.pointer _) Hvac.isAgg55 rfl (Hb.h (by repeat (first | assumption | exact Hb.newY _ _ | refine Hb.alloc ?_ | refine Hb.drew ?_ | refine Hb.ext (by assumption) ?_ | exact Hb.setSameL (by first | omega | (simp only [size_alloc, size_setB, size_drew]; omega)) | exact Hb.setSame (by assumption) | refine Hb.set (by first | omega | (simp only [size_alloc, size_setB, size_drew]; omega)) ?_ ))) (Ce.h (by first | assumption | exact ⟨rfl⟩)) ?_
          refine WH_guardT rfl rfl hb25.h ?_
          refine WH_loadA _ Hvac.isAgg25 Hvac.sizeOf25 rfl (Hb.h (by repeat (first | assumption | exact Hb.newY _ _ | refine Hb.alloc ?_ | refine Hb.drew ?_ | refine Hb.ext (by assumption) ?_ | exact Hb.setSameL (by first | omega | (simp only [size_alloc, size_setB, size_drew]; omega)) | exact Hb.setSame (by assumption) | refine Hb.set (by first | omega | (simp only [size_alloc, size_setB, size_drew]; omega)) ?_ ))) (by first | omega | assumption | rfl | decide | exact Nat.le_refl _ | (simp only [size_ic, Value.cells]; omega) | (simp; omega) | simp) (Xt.h (by first | assumption | exact Xt.whole rfl rfl | exact Xt.whole rfl (by assumption) | exact Xt.whole rfl (by simp only [size_ic, Value.cells]; omega) | exact ⟨rfl⟩)) ?_
          refine WH_guardT rfl rfl hb25.h ?_
          refine WH_call Hvac.call269 (by rfl) (Ret.mono (isEmpty_ex C c v B (bb m) _ _ (VS.ext hM.vs (by repeat (first | assumption | exact Ext.refl _ | refine Ext.alloc ?_ _ | refine Ext.drew ?_ | refine Ext.setB ?_ (by first | omega | (simp only [size_alloc, size_setB, size_drew]; omega)) _ | exact Ext.trans (by assumption) (by assumption) | refine Ext.trans ?_ (by assumption)))) (by first | assumption | exact addrW_by _)) ?_)
          rintro _ w269_25 ⟨hE269_25, rfl⟩
          refine ⟨(fun h => by cases h), ?_⟩
          have hz269_25 := hE269_25.1
          try simp only [size_alloc, size_setB, size_drew] at hz269_25
          refine WH_p (PS_pickT rfl hb25.h rfl) rfl ?_
          refine WH_nil ?_
          refine thn_normal ?_
          refine W_if rfl (fun hb27 => ?_) (fun hb27 => ?_)
          · have hb27p := hb27.h; try simp only [al_ete, al_dfn, Bool.not_eq_true', Bool.not_eq_false', al_ne, Bool.not_not, al_nn] at hb27p
            refine W_region rfl ?_
            refine WO_p (PS_move_int rfl) ?_
            refine WO_p (PS_add_u64n rfl rfl (by omega) (by omega)) ?_
            refine WO_p (PS_assign_int rfl) ?_
            refine WO_nil ?_
            refine thn_normal ?_
            refine W_seq ?_
            refine W_region rfl ?_
            refine WO_p (PS_move_int rfl) ?_
            refine WO_p (PS_assign_int rfl) ?_
            refine WO_nil ?_
            refine thn_normal ?_
            refine W_ret ?_
            refine bodyQ_ret1 Hvac.results336 rfl (.int _ _) rfl ?_
            refine ⟨(by repeat (first | assumption | exact Ext.refl _ | refine Ext.alloc ?_ _ | refine Ext.drew ?_ | refine Ext.setB ?_ (by first | omega | (simp only [size_alloc, size_setB, size_drew]; omega)) _ | refine Ext.trans ?_ (by assumption))), congrArg (Value.int .u64) ?_, hdb⟩
            clear hdb
            unfold destroyW
            simp_all
          · have hb27p := hb27.h; try simp only [al_ete, al_dfn, Bool.not_eq_true', Bool.not_eq_false', al_ne, Bool.not_not, al_nn] at hb27p
            refine W_skip ?_
            refine thn_normal ?_
            refine W_seq ?_
            refine W_region rfl ?_
            refine WO_p (PS_move_int rfl) ?_
            refine WO_p (PS_assign_int rfl) ?_
            refine WO_nil ?_
            refine thn_normal ?_
            refine W_ret ?_
            refine bodyQ_ret1 Hvac.results336 rfl (.int _ _) rfl ?_
            refine ⟨(by repeat (first | assumption | exact Ext.refl _ | refine Ext.alloc ?_ _ | refine Ext.drew ?_ | refine Ext.setB ?_ (by first | omega | (simp only [size_alloc, size_setB, size_drew]; omega)) _ | refine Ext.trans ?_ (by assumption))), congrArg (Value.int .u64) ?_, hdb⟩
            clear hdb
            unfold destroyW
            simp_all
        · have hb25p := hb25.h; try simp only [al_ete, al_dfn, Bool.not_eq_true', Bool.not_eq_false', al_ne, Bool.not_not, al_nn] at hb25p
          refine WH_guardF rfl rfl hb25.h ?_
          refine WH_guardF rfl rfl hb25.h ?_
          refine WH_guardF rfl rfl hb25.h ?_
          refine WH_guardF rfl rfl hb25.h ?_
          refine WH_guardF rfl rfl hb25.h ?_
          refine WH_guardF rfl rfl hb25.h ?_
          refine WH_p (PS_pickF rfl hb25.h rfl) rfl ?_
          refine WH_nil ?_
          refine thn_normal ?_
          refine W_condF rfl rfl ?_
          refine W_skip ?_
          refine thn_normal ?_
          refine W_seq ?_
          refine W_region rfl ?_
          refine WO_p (PS_move_int rfl) ?_
          refine WO_p (PS_assign_int rfl) ?_
          refine WO_nil ?_
          refine thn_normal ?_
          refine W_ret ?_
          refine bodyQ_ret1 Hvac.results336 rfl (.int _ _) rfl ?_
          refine ⟨(by repeat (first | assumption | exact Ext.refl _ | refine Ext.alloc ?_ _ | refine Ext.drew ?_ | refine Ext.setB ?_ (by first | omega | (simp only [size_alloc, size_setB, size_drew]; omega)) _ | refine Ext.trans ?_ (by assumption))), congrArg (Value.int .u64) ?_, hdb⟩
          clear hdb
          unfold destroyW
          simp_all
    · refine WH_allocG Hvac.zeroValue61 ?_
      intro b7 v7 hg7 hE7 hH7 hl7
      try simp only [size_alloc, size_setB, size_drew] at hg7
      have hzz7 := hE7.1
      try simp only [size_alloc, size_setB, size_drew] at hzz7
      refine ⟨fun _ => (by repeat (first | assumption | exact Ext.refl _ | refine Ext.alloc ?_ _ | refine Ext.drew ?_ | refine Ext.setB ?_ (by first | omega | (simp only [size_alloc, size_setB, size_drew]; omega)) _ | exact Ext.trans (by assumption) (by assumption) | refine Ext.trans ?_ (by assumption))), ?_⟩
      refine WH_nil ?_
      refine F_q (i := 8) rfl (by kernel_rfl) ?_
      refine WH_call Hvac.call66 (by rfl) (Ret.mono (balance_spec C c v B (bb m) _ _ (VS.ext hM.vs (by repeat (first | assumption | exact Ext.refl _ | refine Ext.alloc ?_ _ | refine Ext.drew ?_ | refine Ext.setB ?_ (by first | omega | (simp only [size_alloc, size_setB, size_drew]; omega)) _ | exact Ext.trans (by assumption) (by assumption) | refine Ext.trans ?_ (by assumption)))) (by first | assumption | exact addrW_by _)) ?_)
      rintro _ w66_27 ⟨rfl, hE66_27⟩
      refine ⟨(fun h => by cases h), ?_⟩
      have hz66_27 := hE66_27.1
      try simp only [size_alloc, size_setB, size_drew] at hz66_27
      refine WH_nil ?_
      refine F_q (i := 10) rfl (by kernel_rfl) ?_
      first | refine WH_storeW Hvac.sizeOf61 rfl (v := .agg _) rfl (Hb.h (by repeat (first | assumption | exact Hb.newY _ _ | refine Hb.alloc ?_ | refine Hb.drew ?_ | refine Hb.ext (by assumption) ?_ | exact Hb.setSameL (by first | omega | (simp only [size_alloc, size_setB, size_drew]; omega)) | exact Hb.setSame (by assumption) | refine Hb.set (by first | omega | (simp only [size_alloc, size_setB, size_drew]; omega)) ?_ ))) rfl (by first | omega | assumption | rfl | decide | exact Nat.le_refl _ | (simp only [size_ic, Value.cells]; omega) | (simp; omega) | simp) (by first | omega | assumption | rfl | decide | exact Nat.le_refl _ | (simp only [size_ic, Value.cells]; omega) | (simp; omega) | simp) (by first | exact oneCell_ic | assumption | exact one_Ws2 _ | exact one_YA2 _ | exact one_YSl2 _ | exact one_YM2 _ | exact one_YT2 _ | exact one_L2 _) (fun h => by cases h) ?_ | refine WH_store Hvac.sizeOf61 rfl (v := .agg _) rfl (Hb.h (by repeat (first | assumption | exact Hb.newY _ _ | refine Hb.alloc ?_ | refine Hb.drew ?_ | refine Hb.ext (by assumption) ?_ | exact Hb.setSameL (by first | omega | (simp only [size_alloc, size_setB, size_drew]; omega)) | exact Hb.setSame (by assumption) | refine Hb.set (by first | omega | (simp only [size_alloc, size_setB, size_drew]; omega)) ?_ ))) (by first | omega | assumption | rfl | decide | exact Nat.le_refl _ | (simp only [size_ic, Value.cells]; omega) | (simp; omega) | simp) (by first | omega | assumption | rfl | decide | exact Nat.le_refl _ | (simp only [size_ic, Value.cells]; omega) | (simp; omega) | simp) (by first | exact oneCell_ic | assumption | exact one_Ws2 _ | exact one_YA2 _ | exact one_YSl2 _ | exact one_YM2 _ | exact one_YT2 _ | exact one_L2 _) (fun h => by cases h) ?_
      refine WH_nil ?_
      refine F_end ?_
      refine thn_normal ?_
      refine W_seq ?_
      refine W_drawE [false, true, false, false, false, false, false, false, false, false, false] hmix (by kernel_rfl) rfl ?_
      refine WH_loadA _ Hvac.isAgg61 Hvac.sizeOf61 rfl (Hb.h (by repeat (first | assumption | exact Hb.newY _ _ | refine Hb.alloc ?_ | refine Hb.drew ?_ | refine Hb.ext (by assumption) ?_ | exact Hb.setSameL (by first | omega | (simp only [size_alloc, size_setB, size_drew]; omega)) | exact Hb.setSame (by assumption) | refine Hb.set (by first | omega | (simp only [size_alloc, size_setB, size_drew]; omega)) ?_ ))) (by first | omega | assumption | rfl | decide | exact Nat.le_refl _ | (simp only [size_ic, Value.cells]; omega) | (simp; omega) | simp) (Xt.h (by first | assumption | exact Xt.whole rfl rfl | exact Xt.whole rfl (by assumption) | exact Xt.whole rfl (by simp only [size_ic, Value.cells]; omega) | exact ⟨rfl⟩)) ?_
      refine WH_call Hvac.call223 (by rfl) (Ret.mono (isz_spec _ _ (by first | assumption | exact argW_wd hM.ty _ _ | exact Wd0)) ?_)
      rintro _ w223_28 ⟨rfl, hE223_28⟩
      refine ⟨fun _ => (by repeat (first | assumption | exact Ext.refl _ | refine Ext.alloc ?_ _ | refine Ext.drew ?_ | refine Ext.setB ?_ (by first | omega | (simp only [size_alloc, size_setB, size_drew]; omega)) _ | exact Ext.trans (by assumption) (by assumption) | refine Ext.trans ?_ (by assumption))), ?_⟩
      have hz223_28 := hE223_28.1
      try simp only [size_alloc, size_setB, size_drew] at hz223_28
      refine WH_p (PS_not rfl) rfl ?_
      refine WH_p (PS_move_bool rfl) rfl ?_
      refine WH_if (t := 31) rfl (fun hb32 => ?_) (fun hb32 => ?_)
      · have hb32p := hb32.h; try simp only [al_ete, al_dfn, Bool.not_eq_true', Bool.not_eq_false', al_ne, Bool.not_not, al_nn] at hb32p
        refine WH_guardT rfl rfl hb32.h ?_
        refine WH_p (PS_move_ptr rfl) rfl ?_
        refine WH_guardT rfl rfl hb32.h ?_
        refine WH_p (PS_nilCheck rfl) rfl ?_
        refine WH_guardT rfl rfl hb32.h ?_
        refine WH_p (PS_fieldAddr 0 Hvac.runUnderlying70 rfl Hvac.sizeOf55 rfl rfl) rfl ?_
        refine WH_guardT rfl rfl hb32.h ?_
        refine WH_load (.pointer _) Hvac.isAgg55 rfl (Hb.h (by repeat (first | assumption | exact Hb.newY _ _ | refine Hb.alloc ?_ | refine Hb.drew ?_ | refine Hb.ext (by assumption) ?_ | exact Hb.setSameL (by first | omega | (simp only [size_alloc, size_setB, size_drew]; omega)) | exact Hb.setSame (by assumption) | refine Hb.set (by first | omega | (simp only [size_alloc, size_setB, size_drew]; omega)) ?_ ))) (Ce.h (by first | assumption | exact ⟨rfl⟩)) ?_
        refine WH_guardT rfl rfl hb32.h ?_
        refine WH_loadA _ Hvac.isAgg25 Hvac.sizeOf25 rfl (Hb.h (by repeat (first | assumption | exact Hb.newY _ _ | refine Hb.alloc ?_ | refine Hb.drew ?_ | refine Hb.ext (by assumption) ?_ | exact Hb.setSameL (by first | omega | (simp only [size_alloc, size_setB, size_drew]; omega)) | exact Hb.setSame (by assumption) | refine Hb.set (by first | omega | (simp only [size_alloc, size_setB, size_drew]; omega)) ?_ ))) (by first | omega | assumption | rfl | decide | exact Nat.le_refl _ | (simp only [size_ic, Value.cells]; omega) | (simp; omega) | simp) (Xt.h (by first | assumption | exact Xt.whole rfl rfl | exact Xt.whole rfl (by assumption) | exact Xt.whole rfl (by simp only [size_ic, Value.cells]; omega) | exact ⟨rfl⟩)) ?_
        refine WH_guardT rfl rfl hb32.h ?_
        refine WH_call Hvac.call269 (by rfl) (Ret.mono (isEmpty_ex C c v B (bb m) _ _ (VS.ext hM.vs (by repeat (first | assumption | exact Ext.refl _ | refine Ext.alloc ?_ _ | refine Ext.drew ?_ | refine Ext.setB ?_ (by first | omega | (simp only [size_alloc, size_setB, size_drew]; omega)) _ | exact Ext.trans (by assumption) (by assumption) | refine Ext.trans ?_ (by assumption)))) (by first | assumption | exact addrW_by _)) ?_)
        rintro _ w269_32 ⟨hE269_32, rfl⟩
        refine ⟨(fun h => by cases h), ?_⟩
        have hz269_32 := hE269_32.1
        try simp only [size_alloc, size_setB, size_drew] at hz269_32
        refine WH_p (PS_pickT rfl hb32.h rfl) rfl ?_
        refine WH_nil ?_
        refine thn_normal ?_
        refine W_if rfl (fun hb34 => ?_) (fun hb34 => ?_)
        · have hb34p := hb34.h; try simp only [al_ete, al_dfn, Bool.not_eq_true', Bool.not_eq_false', al_ne, Bool.not_not, al_nn] at hb34p
          refine W_region rfl ?_
          refine WO_p (PS_move_int rfl) ?_
          refine WO_p (PS_add_u64n rfl rfl (by omega) (by omega)) ?_
          refine WO_p (PS_assign_int rfl) ?_
          refine WO_nil ?_
          refine thn_normal ?_
          refine W_seq ?_
          refine W_region rfl ?_
          refine WO_p (PS_move_int rfl) ?_
          refine WO_p (PS_assign_int rfl) ?_
          refine WO_nil ?_
          refine thn_normal ?_
          refine W_ret ?_
          refine bodyQ_ret1 Hvac.results336 rfl (.int _ _) rfl ?_
          refine ⟨(by repeat (first | assumption | exact Ext.refl _ | refine Ext.alloc ?_ _ | refine Ext.drew ?_ | refine Ext.setB ?_ (by first | omega | (simp only [size_alloc, size_setB, size_drew]; omega)) _ | refine Ext.trans ?_ (by assumption))), congrArg (Value.int .u64) ?_, hdb⟩
          clear hdb
          unfold destroyW
          simp_all
        · have hb34p := hb34.h; try simp only [al_ete, al_dfn, Bool.not_eq_true', Bool.not_eq_false', al_ne, Bool.not_not, al_nn] at hb34p
          refine W_skip ?_
          refine thn_normal ?_
          refine W_seq ?_
          refine W_region rfl ?_
          refine WO_p (PS_move_int rfl) ?_
          refine WO_p (PS_assign_int rfl) ?_
          refine WO_nil ?_
          refine thn_normal ?_
          refine W_ret ?_
          refine bodyQ_ret1 Hvac.results336 rfl (.int _ _) rfl ?_
          refine ⟨(by repeat (first | assumption | exact Ext.refl _ | refine Ext.alloc ?_ _ | refine Ext.drew ?_ | refine Ext.setB ?_ (by first | omega | (simp only [size_alloc, size_setB, size_drew]; omega)) _ | refine Ext.trans ?_ (by assumption))), congrArg (Value.int .u64) ?_, hdb⟩
          clear hdb
          unfold destroyW
          simp_all
      · have hb32p := hb32.h; try simp only [al_ete, al_dfn, Bool.not_eq_true', Bool.not_eq_false', al_ne, Bool.not_not, al_nn] at hb32p
        refine WH_guardF rfl rfl hb32.h ?_
        refine WH_guardF rfl rfl hb32.h ?_
        refine WH_guardF rfl rfl hb32.h ?_
        refine WH_guardF rfl rfl hb32.h ?_
        refine WH_guardF rfl rfl hb32.h ?_
        refine WH_guardF rfl rfl hb32.h ?_
        refine WH_p (PS_pickF rfl hb32.h rfl) rfl ?_
        refine WH_nil ?_
        refine thn_normal ?_
        refine W_condF rfl rfl ?_
        refine W_skip ?_
        refine thn_normal ?_
        refine W_seq ?_
        refine W_region rfl ?_
        refine WO_p (PS_move_int rfl) ?_
        refine WO_p (PS_assign_int rfl) ?_
        refine WO_nil ?_
        refine thn_normal ?_
        refine W_ret ?_
        refine bodyQ_ret1 Hvac.results336 rfl (.int _ _) rfl ?_
        refine ⟨(by repeat (first | assumption | exact Ext.refl _ | refine Ext.alloc ?_ _ | refine Ext.drew ?_ | refine Ext.setB ?_ (by first | omega | (simp only [size_alloc, size_setB, size_drew]; omega)) _ | refine Ext.trans ?_ (by assumption))), congrArg (Value.int .u64) ?_, hdb⟩
        clear hdb
        unfold destroyW
        simp_all

set_option maxRecDepth 10000 in
set_option maxHeartbeats 4000000 in
theorem dynamic_ex [Om] (C : Nat) (c : Array Value) (v : V) (B : VB) (m : Mc) (t : Nat) (f : Fm) (o : Int) (w : World) (hM : MS w C c v B m) (hA : FrA m t f) (ho : 0 ≤ o ∧ o ≤ 255) (hre : (reachesW m f o).2 = true) : Ret Hvac.prog 243 #[.pointer (some ⟨C, 0, none⟩), .pointer (some ⟨C, 1803 + t * 65, none⟩), .int .u8 o] w fun u w' => Ext w w' ∧ u = .int .u64 (dynW v m f o) ∧ (0 ≤ dynW v m f o ∧ dynW v m f o ≤ 8000000) := by
  have hA0 := hA
  have hblk := hM.vs.blk
  have hCl := hblk.lt
  have hcs := hM.sz
  have hc_s := hM.rep.s
  obtain ⟨ht6, hf, hsb, hsp⟩ := hA0
  obtain ⟨ht7, hfty, hF⟩ := hM.openF hf
  have hf_self := hF.self
  have hby := hfty.self
  have ha0 := accW_bd v (addrW (m.argW f 0))
  have ha1 := accW_bd v (addrW (m.argW f 1))
  have hw2 := argW_wd hM.ty f 2
  have hl2 := hw2.1
  have hss := sstoreW_bd (v.sorig f.self (m.argW f 0)) (v.sval f.self (m.argW f 0)) (m.argW f 1) (!v.isWarmS f.self (m.argW f 0))
  refine Ret_of_W Hvac.func243 rfl rfl ?_
  refine W_seq ?_
  refine W_region rfl ?_
  refine WO_p (PS_assign_int rfl) ?_
  refine WO_nil ?_
  refine thn_normal ?_
  refine W_seq ?_
  refine W_seq ?_
  refine W_region rfl ?_
  refine WO_p (PS_move_int rfl) ?_
  refine WO_nil ?_
  refine thn_normal ?_
  refine W_block ?_
  refine W_seq ?_
  refine W_region rfl ?_
  refine WO_p (PS_eql rfl rfl) ?_
  refine WO_p (PS_assign_bool rfl) ?_
  refine WO_nil ?_
  refine thn_normal ?_
  refine W_if rfl (fun hb2 => ?_) (fun hb2 => ?_)
  · have hb2p := hb2.h; try simp only [al_ete, al_dfn, Bool.not_eq_true', Bool.not_eq_false', al_ne, Bool.not_not, al_nn] at hb2p
    refine W_seq ?_
    refine W_region rfl ?_
    refine WO_p (PS_move_ptr rfl) ?_
    refine WO_p (PS_move_ptr rfl) ?_
    refine WO_call Hvac.call239 (by rfl) (Ret.mono (arg_spec C c v B m t f _ _ (MS.ext hM (by repeat (first | assumption | exact Ext.refl _ | refine Ext.alloc ?_ _ | refine Ext.drew ?_ | refine Ext.setB ?_ (by first | omega | (simp only [size_alloc, size_setB, size_drew]; omega)) _ | exact Ext.trans (by assumption) (by assumption) | refine Ext.trans ?_ (by assumption)))) hA (by omega)) ?_)
    rintro _ w239_2 ⟨hE239_2, rfl⟩
    have hz239_2 := hE239_2.1
    try simp only [size_alloc, size_setB, size_drew] at hz239_2
    refine WO_call Hvac.call331 (by rfl) (Ret.mono (expCost_ex _ _ (argW_wd hM.ty _ _)) ?_)
    rintro _ w331_3 ⟨hE331_3, rfl, hs32⟩
    have hz331_3 := hE331_3.1
    try simp only [size_alloc, size_setB, size_drew] at hz331_3
    refine WO_p (PS_sub_u64n rfl rfl (by omega) (by omega)) ?_
    refine WO_p (PS_assign_int rfl) ?_
    refine WO_nil ?_
    refine thn_normal ?_
    refine W_ret ?_
    refine inBlk_ret ?_
    refine thn_ret ?_
    refine bodyQ_ret1 Hvac.results243 rfl (.int _ _) rfl ?_
    first
    | (exfalso; omega)
    | (refine ⟨(by repeat (first | assumption | exact Ext.refl _ | refine Ext.alloc ?_ _ | refine Ext.drew ?_ | refine Ext.setB ?_ (by first | omega | (simp only [size_alloc, size_setB, size_drew]; omega)) _ | refine Ext.trans ?_ (by assumption))), ?_, ?_⟩
       · congr 1
         unfold dynW
         first
         | (simp only [*]; simp; done)
         | (simp only [*]; simp; omega)
         | (simp_all; done)
         | (simp_all; omega)
         | (repeat (first | rw [if_pos (by omega)] | rw [if_neg (by omega)]))
       · unfold dynW
         repeat (first | omega | split))
  · have hb2p := hb2.h; try simp only [al_ete, al_dfn, Bool.not_eq_true', Bool.not_eq_false', al_ne, Bool.not_not, al_nn] at hb2p
    refine W_seq ?_
    refine W_region rfl ?_
    refine WO_p (PS_eql rfl rfl) ?_
    refine WO_p (PS_assign_bool rfl) ?_
    refine WO_nil ?_
    refine thn_normal ?_
    refine W_if rfl (fun hb6 => ?_) (fun hb6 => ?_)
    · have hb6p := hb6.h; try simp only [al_ete, al_dfn, Bool.not_eq_true', Bool.not_eq_false', al_ne, Bool.not_not, al_nn] at hb6p
      refine W_seq ?_
      refine W_region rfl ?_
      refine WO_p (PS_move_ptr rfl) ?_
      refine WO_p (PS_move_ptr rfl) ?_
      refine WO_call Hvac.call239 (by rfl) (Ret.mono (arg_spec C c v B m t f _ _ (MS.ext hM (by repeat (first | assumption | exact Ext.refl _ | refine Ext.alloc ?_ _ | refine Ext.drew ?_ | refine Ext.setB ?_ (by first | omega | (simp only [size_alloc, size_setB, size_drew]; omega)) _ | exact Ext.trans (by assumption) (by assumption) | refine Ext.trans ?_ (by assumption)))) hA (by omega)) ?_)
      rintro _ w239_6 ⟨hE239_6, rfl⟩
      have hz239_6 := hE239_6.1
      try simp only [size_alloc, size_setB, size_drew] at hz239_6
      refine WO_call Hvac.call332 (by rfl) (Ret.mono (lenX_ex _ _ (argW_wd hM.ty _ _) (by first | exact lenA hre (by omega) | exact lenB hre (by omega) | exact lenC hre (by omega) | exact lenD hre (by omega) | exact lenE hre (by omega))) ?_)
      rintro _ w332_7 ⟨hE332_7, rfl, hx0332_7, hx1332_7⟩
      have hz332_7 := hE332_7.1
      try simp only [size_alloc, size_setB, size_drew] at hz332_7
      refine WO_call Hvac.call142 (by rfl) (Ret.mono (words_spec _ _ ⟨by omega, by omega⟩) ?_)
      rintro _ _ ⟨rfl, rfl⟩
      refine WO_p (PS_mul_u64n rfl rfl (by omega) (by omega)) ?_
      refine WO_p (PS_assign_int rfl) ?_
      refine WO_nil ?_
      refine thn_normal ?_
      refine W_ret ?_
      refine inBlk_ret ?_
      refine thn_ret ?_
      refine bodyQ_ret1 Hvac.results243 rfl (.int _ _) rfl ?_
      first
      | (exfalso; omega)
      | (refine ⟨(by repeat (first | assumption | exact Ext.refl _ | refine Ext.alloc ?_ _ | refine Ext.drew ?_ | refine Ext.setB ?_ (by first | omega | (simp only [size_alloc, size_setB, size_drew]; omega)) _ | refine Ext.trans ?_ (by assumption))), ?_, ?_⟩
         · congr 1
           unfold dynW
           first
           | (simp only [*]; simp; done)
           | (simp only [*]; simp; omega)
           | (simp_all; done)
           | (simp_all; omega)
           | (repeat (first | rw [if_pos (by omega)] | rw [if_neg (by omega)]))
         · unfold dynW
           repeat (first | omega | split))
    · have hb6p := hb6.h; try simp only [al_ete, al_dfn, Bool.not_eq_true', Bool.not_eq_false', al_ne, Bool.not_not, al_nn] at hb6p
      refine W_seq ?_
      refine W_seq ?_
      refine W_region rfl ?_
      refine WO_p (PS_eql rfl rfl) ?_
      refine WO_p (PS_assign_bool rfl) ?_
      refine WO_nil ?_
      refine thn_normal ?_
      refine W_if rfl (fun hb11 => ?_) (fun hb11 => ?_)
      · have hb11p := hb11.h; try simp only [al_ete, al_dfn, Bool.not_eq_true', Bool.not_eq_false', al_ne, Bool.not_not, al_nn] at hb11p
        refine W_skip ?_
        refine thn_normal ?_
        refine W_condT rfl hb11.h ?_
        refine W_seq ?_
        refine W_region rfl ?_
        refine WO_p (PS_move_ptr rfl) ?_
        refine WO_p (PS_move_ptr rfl) ?_
        refine WO_call Hvac.call239 (by rfl) (Ret.mono (arg_spec C c v B m t f _ _ (MS.ext hM (by repeat (first | assumption | exact Ext.refl _ | refine Ext.alloc ?_ _ | refine Ext.drew ?_ | refine Ext.setB ?_ (by first | omega | (simp only [size_alloc, size_setB, size_drew]; omega)) _ | exact Ext.trans (by assumption) (by assumption) | refine Ext.trans ?_ (by assumption)))) hA (by omega)) ?_)
        rintro _ w239_11 ⟨hE239_11, rfl⟩
        have hz239_11 := hE239_11.1
        try simp only [size_alloc, size_setB, size_drew] at hz239_11
        refine WO_call Hvac.call332 (by rfl) (Ret.mono (lenX_ex _ _ (argW_wd hM.ty _ _) (by first | exact lenA hre (by omega) | exact lenB hre (by omega) | exact lenC hre (by omega) | exact lenD hre (by omega) | exact lenE hre (by omega))) ?_)
        rintro _ w332_12 ⟨hE332_12, rfl, hx0332_12, hx1332_12⟩
        have hz332_12 := hE332_12.1
        try simp only [size_alloc, size_setB, size_drew] at hz332_12
        refine WO_call Hvac.call333 (by rfl) (Ret.mono (copyCost_spec _ _ (by omega) (by omega)) ?_)
        rintro _ w333_13 ⟨hE333_13, rfl⟩
        have hz333_13 := hE333_13.1
        try simp only [size_alloc, size_setB, size_drew] at hz333_13
        refine WO_p (PS_assign_int rfl) ?_
        refine WO_nil ?_
        refine thn_normal ?_
        refine W_ret ?_
        refine inBlk_ret ?_
        refine thn_ret ?_
        refine bodyQ_ret1 Hvac.results243 rfl (.int _ _) rfl ?_
        first
        | (exfalso; omega)
        | (refine ⟨(by repeat (first | assumption | exact Ext.refl _ | refine Ext.alloc ?_ _ | refine Ext.drew ?_ | refine Ext.setB ?_ (by first | omega | (simp only [size_alloc, size_setB, size_drew]; omega)) _ | refine Ext.trans ?_ (by assumption))), ?_, ?_⟩
           · congr 1
             unfold dynW
             first
             | (simp only [*]; simp; done)
             | (simp only [*]; simp; omega)
             | (simp_all; done)
             | (simp_all; omega)
             | (repeat (first | rw [if_pos (by omega)] | rw [if_neg (by omega)]))
           · unfold dynW
             repeat (first | omega | split))
      · have hb11p := hb11.h; try simp only [al_ete, al_dfn, Bool.not_eq_true', Bool.not_eq_false', al_ne, Bool.not_not, al_nn] at hb11p
        refine W_seq ?_
        refine W_region rfl ?_
        refine WO_p (PS_eql rfl rfl) ?_
        refine WO_p (PS_assign_bool rfl) ?_
        refine WO_nil ?_
        refine thn_normal ?_
        refine W_if rfl (fun hb16 => ?_) (fun hb16 => ?_)
        · have hb16p := hb16.h; try simp only [al_ete, al_dfn, Bool.not_eq_true', Bool.not_eq_false', al_ne, Bool.not_not, al_nn] at hb16p
          refine W_skip ?_
          refine thn_normal ?_
          refine W_condT rfl hb16.h ?_
          refine W_seq ?_
          refine W_region rfl ?_
          refine WO_p (PS_move_ptr rfl) ?_
          refine WO_p (PS_move_ptr rfl) ?_
          refine WO_call Hvac.call239 (by rfl) (Ret.mono (arg_spec C c v B m t f _ _ (MS.ext hM (by repeat (first | assumption | exact Ext.refl _ | refine Ext.alloc ?_ _ | refine Ext.drew ?_ | refine Ext.setB ?_ (by first | omega | (simp only [size_alloc, size_setB, size_drew]; omega)) _ | exact Ext.trans (by assumption) (by assumption) | refine Ext.trans ?_ (by assumption)))) hA (by omega)) ?_)
          rintro _ w239_16 ⟨hE239_16, rfl⟩
          have hz239_16 := hE239_16.1
          try simp only [size_alloc, size_setB, size_drew] at hz239_16
          refine WO_call Hvac.call332 (by rfl) (Ret.mono (lenX_ex _ _ (argW_wd hM.ty _ _) (by first | exact lenA hre (by omega) | exact lenB hre (by omega) | exact lenC hre (by omega) | exact lenD hre (by omega) | exact lenE hre (by omega))) ?_)
          rintro _ w332_17 ⟨hE332_17, rfl, hx0332_17, hx1332_17⟩
          have hz332_17 := hE332_17.1
          try simp only [size_alloc, size_setB, size_drew] at hz332_17
          refine WO_call Hvac.call333 (by rfl) (Ret.mono (copyCost_spec _ _ (by omega) (by omega)) ?_)
          rintro _ w333_18 ⟨hE333_18, rfl⟩
          have hz333_18 := hE333_18.1
          try simp only [size_alloc, size_setB, size_drew] at hz333_18
          refine WO_p (PS_assign_int rfl) ?_
          refine WO_nil ?_
          refine thn_normal ?_
          refine W_ret ?_
          refine inBlk_ret ?_
          refine thn_ret ?_
          refine bodyQ_ret1 Hvac.results243 rfl (.int _ _) rfl ?_
          first
          | (exfalso; omega)
          | (refine ⟨(by repeat (first | assumption | exact Ext.refl _ | refine Ext.alloc ?_ _ | refine Ext.drew ?_ | refine Ext.setB ?_ (by first | omega | (simp only [size_alloc, size_setB, size_drew]; omega)) _ | refine Ext.trans ?_ (by assumption))), ?_, ?_⟩
             · congr 1
               unfold dynW
               first
               | (simp only [*]; simp; done)
               | (simp only [*]; simp; omega)
               | (simp_all; done)
               | (simp_all; omega)
               | (repeat (first | rw [if_pos (by omega)] | rw [if_neg (by omega)]))
             · unfold dynW
               repeat (first | omega | split))
        · have hb16p := hb16.h; try simp only [al_ete, al_dfn, Bool.not_eq_true', Bool.not_eq_false', al_ne, Bool.not_not, al_nn] at hb16p
          refine W_seq ?_
          refine W_region rfl ?_
          refine WO_p (PS_eql rfl rfl) ?_
          refine WO_p (PS_assign_bool rfl) ?_
          refine WO_nil ?_
          refine thn_normal ?_
          refine W_if rfl (fun hb21 => ?_) (fun hb21 => ?_)
          · have hb21p := hb21.h; try simp only [al_ete, al_dfn, Bool.not_eq_true', Bool.not_eq_false', al_ne, Bool.not_not, al_nn] at hb21p
            refine W_skip ?_
            refine thn_normal ?_
            refine W_condT rfl hb21.h ?_
            refine W_seq ?_
            refine W_region rfl ?_
            refine WO_p (PS_move_ptr rfl) ?_
            refine WO_p (PS_move_ptr rfl) ?_
            refine WO_call Hvac.call239 (by rfl) (Ret.mono (arg_spec C c v B m t f _ _ (MS.ext hM (by repeat (first | assumption | exact Ext.refl _ | refine Ext.alloc ?_ _ | refine Ext.drew ?_ | refine Ext.setB ?_ (by first | omega | (simp only [size_alloc, size_setB, size_drew]; omega)) _ | exact Ext.trans (by assumption) (by assumption) | refine Ext.trans ?_ (by assumption)))) hA (by omega)) ?_)
            rintro _ w239_21 ⟨hE239_21, rfl⟩
            have hz239_21 := hE239_21.1
            try simp only [size_alloc, size_setB, size_drew] at hz239_21
            refine WO_call Hvac.call332 (by rfl) (Ret.mono (lenX_ex _ _ (argW_wd hM.ty _ _) (by first | exact lenA hre (by omega) | exact lenB hre (by omega) | exact lenC hre (by omega) | exact lenD hre (by omega) | exact lenE hre (by omega))) ?_)
            rintro _ w332_22 ⟨hE332_22, rfl, hx0332_22, hx1332_22⟩
            have hz332_22 := hE332_22.1
            try simp only [size_alloc, size_setB, size_drew] at hz332_22
            refine WO_call Hvac.call333 (by rfl) (Ret.mono (copyCost_spec _ _ (by omega) (by omega)) ?_)
            rintro _ w333_23 ⟨hE333_23, rfl⟩
            have hz333_23 := hE333_23.1
            try simp only [size_alloc, size_setB, size_drew] at hz333_23
            refine WO_p (PS_assign_int rfl) ?_
            refine WO_nil ?_
            refine thn_normal ?_
            refine W_ret ?_
            refine inBlk_ret ?_
            refine thn_ret ?_
            refine bodyQ_ret1 Hvac.results243 rfl (.int _ _) rfl ?_
            first
            | (exfalso; omega)
            | (refine ⟨(by repeat (first | assumption | exact Ext.refl _ | refine Ext.alloc ?_ _ | refine Ext.drew ?_ | refine Ext.setB ?_ (by first | omega | (simp only [size_alloc, size_setB, size_drew]; omega)) _ | refine Ext.trans ?_ (by assumption))), ?_, ?_⟩
               · congr 1
                 unfold dynW
                 first
                 | (simp only [*]; simp; done)
                 | (simp only [*]; simp; omega)
                 | (simp_all; done)
                 | (simp_all; omega)
                 | (repeat (first | rw [if_pos (by omega)] | rw [if_neg (by omega)]))
               · unfold dynW
                 repeat (first | omega | split))
          · have hb21p := hb21.h; try simp only [al_ete, al_dfn, Bool.not_eq_true', Bool.not_eq_false', al_ne, Bool.not_not, al_nn] at hb21p
            refine W_region rfl ?_
            refine WO_p (PS_eql rfl rfl) ?_
            refine WO_p (PS_assign_bool rfl) ?_
            refine WO_nil ?_
            refine thn_normal ?_
            refine W_if rfl (fun hb26 => ?_) (fun hb26 => ?_)
            · have hb26p := hb26.h; try simp only [al_ete, al_dfn, Bool.not_eq_true', Bool.not_eq_false', al_ne, Bool.not_not, al_nn] at hb26p
              refine W_seq ?_
              refine W_region rfl ?_
              refine WO_p (PS_move_ptr rfl) ?_
              refine WO_p (PS_move_ptr rfl) ?_
              refine WO_call Hvac.call239 (by rfl) (Ret.mono (arg_spec C c v B m t f _ _ (MS.ext hM (by repeat (first | assumption | exact Ext.refl _ | refine Ext.alloc ?_ _ | refine Ext.drew ?_ | refine Ext.setB ?_ (by first | omega | (simp only [size_alloc, size_setB, size_drew]; omega)) _ | exact Ext.trans (by assumption) (by assumption) | refine Ext.trans ?_ (by assumption)))) hA (by omega)) ?_)
              rintro _ w239_26 ⟨hE239_26, rfl⟩
              have hz239_26 := hE239_26.1
              try simp only [size_alloc, size_setB, size_drew] at hz239_26
              refine WO_call Hvac.call332 (by rfl) (Ret.mono (lenX_ex _ _ (argW_wd hM.ty _ _) (by first | exact lenA hre (by omega) | exact lenB hre (by omega) | exact lenC hre (by omega) | exact lenD hre (by omega) | exact lenE hre (by omega))) ?_)
              rintro _ w332_27 ⟨hE332_27, rfl, hx0332_27, hx1332_27⟩
              have hz332_27 := hE332_27.1
              try simp only [size_alloc, size_setB, size_drew] at hz332_27
              refine WO_call Hvac.call333 (by rfl) (Ret.mono (copyCost_spec _ _ (by omega) (by omega)) ?_)
              rintro _ w333_28 ⟨hE333_28, rfl⟩
              have hz333_28 := hE333_28.1
              try simp only [size_alloc, size_setB, size_drew] at hz333_28
              refine WO_p (PS_assign_int rfl) ?_
              refine WO_nil ?_
              refine thn_normal ?_
              refine W_ret ?_
              refine inBlk_ret ?_
              refine thn_ret ?_
              refine bodyQ_ret1 Hvac.results243 rfl (.int _ _) rfl ?_
              first
              | (exfalso; omega)
              | (refine ⟨(by repeat (first | assumption | exact Ext.refl _ | refine Ext.alloc ?_ _ | refine Ext.drew ?_ | refine Ext.setB ?_ (by first | omega | (simp only [size_alloc, size_setB, size_drew]; omega)) _ | refine Ext.trans ?_ (by assumption))), ?_, ?_⟩
                 · congr 1
                   unfold dynW
                   first
                   | (simp only [*]; simp; done)
                   | (simp only [*]; simp; omega)
                   | (simp_all; done)
                   | (simp_all; omega)
                   | (repeat (first | rw [if_pos (by omega)] | rw [if_neg (by omega)]))
                 · unfold dynW
                   repeat (first | omega | split))
            · have hb26p := hb26.h; try simp only [al_ete, al_dfn, Bool.not_eq_true', Bool.not_eq_false', al_ne, Bool.not_not, al_nn] at hb26p
              refine W_seq ?_
              refine W_seq ?_
              refine W_region rfl ?_
              refine WO_p (PS_eql rfl rfl) ?_
              refine WO_p (PS_assign_bool rfl) ?_
              refine WO_nil ?_
              refine thn_normal ?_
              refine W_if rfl (fun hb31 => ?_) (fun hb31 => ?_)
              · have hb31p := hb31.h; try simp only [al_ete, al_dfn, Bool.not_eq_true', Bool.not_eq_false', al_ne, Bool.not_not, al_nn] at hb31p
                refine W_skip ?_
                refine thn_normal ?_
                refine W_condT rfl hb31.h ?_
                refine W_seq ?_
                refine W_region rfl ?_
                refine WO_p (PS_move_ptr rfl) ?_
                refine WO_p (PS_move_ptr rfl) ?_
                refine WO_p (PS_move_ptr rfl) ?_
                refine WO_call Hvac.call239 (by rfl) (Ret.mono (arg_spec C c v B m t f _ _ (MS.ext hM (by repeat (first | assumption | exact Ext.refl _ | refine Ext.alloc ?_ _ | refine Ext.drew ?_ | refine Ext.setB ?_ (by first | omega | (simp only [size_alloc, size_setB, size_drew]; omega)) _ | exact Ext.trans (by assumption) (by assumption) | refine Ext.trans ?_ (by assumption)))) hA (by omega)) ?_)
                rintro _ w239_31 ⟨hE239_31, rfl⟩
                have hz239_31 := hE239_31.1
                try simp only [size_alloc, size_setB, size_drew] at hz239_31
                refine WO_call Hvac.call334 (by rfl) (Ret.mono (access_spec C c v B m _ _ (MS.ext hM (by repeat (first | assumption | exact Ext.refl _ | refine Ext.alloc ?_ _ | refine Ext.drew ?_ | refine Ext.setB ?_ (by first | omega | (simp only [size_alloc, size_setB, size_drew]; omega)) _ | exact Ext.trans (by assumption) (by assumption) | refine Ext.trans ?_ (by assumption)))) (argW_wd hM.ty _ _)) ?_)
                rintro _ w334_32 ⟨hE334_32, rfl⟩
                have hz334_32 := hE334_32.1
                try simp only [size_alloc, size_setB, size_drew] at hz334_32
                refine WO_p (PS_assign_int rfl) ?_
                refine WO_nil ?_
                refine thn_normal ?_
                refine W_ret ?_
                refine inBlk_ret ?_
                refine thn_ret ?_
                refine bodyQ_ret1 Hvac.results243 rfl (.int _ _) rfl ?_
                first
                | (exfalso; omega)
                | (refine ⟨(by repeat (first | assumption | exact Ext.refl _ | refine Ext.alloc ?_ _ | refine Ext.drew ?_ | refine Ext.setB ?_ (by first | omega | (simp only [size_alloc, size_setB, size_drew]; omega)) _ | refine Ext.trans ?_ (by assumption))), ?_, ?_⟩
                   · congr 1
                     unfold dynW
                     first
                     | (simp only [*]; simp; done)
                     | (simp only [*]; simp; omega)
                     | (simp_all; done)
                     | (simp_all; omega)
                     | (repeat (first | rw [if_pos (by omega)] | rw [if_neg (by omega)]))
                   · unfold dynW
                     repeat (first | omega | split))
              · have hb31p := hb31.h; try simp only [al_ete, al_dfn, Bool.not_eq_true', Bool.not_eq_false', al_ne, Bool.not_not, al_nn] at hb31p
                refine W_seq ?_
                refine W_region rfl ?_
                refine WO_p (PS_eql rfl rfl) ?_
                refine WO_p (PS_assign_bool rfl) ?_
                refine WO_nil ?_
                refine thn_normal ?_
                refine W_if rfl (fun hb35 => ?_) (fun hb35 => ?_)
                · have hb35p := hb35.h; try simp only [al_ete, al_dfn, Bool.not_eq_true', Bool.not_eq_false', al_ne, Bool.not_not, al_nn] at hb35p
                  refine W_skip ?_
                  refine thn_normal ?_
                  refine W_condT rfl hb35.h ?_
                  refine W_seq ?_
                  refine W_region rfl ?_
                  refine WO_p (PS_move_ptr rfl) ?_
                  refine WO_p (PS_move_ptr rfl) ?_
                  refine WO_p (PS_move_ptr rfl) ?_
                  refine WO_call Hvac.call239 (by rfl) (Ret.mono (arg_spec C c v B m t f _ _ (MS.ext hM (by repeat (first | assumption | exact Ext.refl _ | refine Ext.alloc ?_ _ | refine Ext.drew ?_ | refine Ext.setB ?_ (by first | omega | (simp only [size_alloc, size_setB, size_drew]; omega)) _ | exact Ext.trans (by assumption) (by assumption) | refine Ext.trans ?_ (by assumption)))) hA (by omega)) ?_)
                  rintro _ w239_35 ⟨hE239_35, rfl⟩
                  have hz239_35 := hE239_35.1
                  try simp only [size_alloc, size_setB, size_drew] at hz239_35
                  refine WO_call Hvac.call334 (by rfl) (Ret.mono (access_spec C c v B m _ _ (MS.ext hM (by repeat (first | assumption | exact Ext.refl _ | refine Ext.alloc ?_ _ | refine Ext.drew ?_ | refine Ext.setB ?_ (by first | omega | (simp only [size_alloc, size_setB, size_drew]; omega)) _ | exact Ext.trans (by assumption) (by assumption) | refine Ext.trans ?_ (by assumption)))) (argW_wd hM.ty _ _)) ?_)
                  rintro _ w334_36 ⟨hE334_36, rfl⟩
                  have hz334_36 := hE334_36.1
                  try simp only [size_alloc, size_setB, size_drew] at hz334_36
                  refine WO_p (PS_assign_int rfl) ?_
                  refine WO_nil ?_
                  refine thn_normal ?_
                  refine W_ret ?_
                  refine inBlk_ret ?_
                  refine thn_ret ?_
                  refine bodyQ_ret1 Hvac.results243 rfl (.int _ _) rfl ?_
                  first
                  | (exfalso; omega)
                  | (refine ⟨(by repeat (first | assumption | exact Ext.refl _ | refine Ext.alloc ?_ _ | refine Ext.drew ?_ | refine Ext.setB ?_ (by first | omega | (simp only [size_alloc, size_setB, size_drew]; omega)) _ | refine Ext.trans ?_ (by assumption))), ?_, ?_⟩
                     · congr 1
                       unfold dynW
                       first
                       | (simp only [*]; simp; done)
                       | (simp only [*]; simp; omega)
                       | (simp_all; done)
                       | (simp_all; omega)
                       | (repeat (first | rw [if_pos (by omega)] | rw [if_neg (by omega)]))
                     · unfold dynW
                       repeat (first | omega | split))
                · have hb35p := hb35.h; try simp only [al_ete, al_dfn, Bool.not_eq_true', Bool.not_eq_false', al_ne, Bool.not_not, al_nn] at hb35p
                  refine W_region rfl ?_
                  refine WO_p (PS_eql rfl rfl) ?_
                  refine WO_p (PS_assign_bool rfl) ?_
                  refine WO_nil ?_
                  refine thn_normal ?_
                  refine W_if rfl (fun hb39 => ?_) (fun hb39 => ?_)
                  · have hb39p := hb39.h; try simp only [al_ete, al_dfn, Bool.not_eq_true', Bool.not_eq_false', al_ne, Bool.not_not, al_nn] at hb39p
                    refine W_seq ?_
                    refine W_region rfl ?_
                    refine WO_p (PS_move_ptr rfl) ?_
                    refine WO_p (PS_move_ptr rfl) ?_
                    refine WO_p (PS_move_ptr rfl) ?_
                    refine WO_call Hvac.call239 (by rfl) (Ret.mono (arg_spec C c v B m t f _ _ (MS.ext hM (by repeat (first | assumption | exact Ext.refl _ | refine Ext.alloc ?_ _ | refine Ext.drew ?_ | refine Ext.setB ?_ (by first | omega | (simp only [size_alloc, size_setB, size_drew]; omega)) _ | exact Ext.trans (by assumption) (by assumption) | refine Ext.trans ?_ (by assumption)))) hA (by omega)) ?_)
                    rintro _ w239_39 ⟨hE239_39, rfl⟩
                    have hz239_39 := hE239_39.1
                    try simp only [size_alloc, size_setB, size_drew] at hz239_39
                    refine WO_call Hvac.call334 (by rfl) (Ret.mono (access_spec C c v B m _ _ (MS.ext hM (by repeat (first | assumption | exact Ext.refl _ | refine Ext.alloc ?_ _ | refine Ext.drew ?_ | refine Ext.setB ?_ (by first | omega | (simp only [size_alloc, size_setB, size_drew]; omega)) _ | exact Ext.trans (by assumption) (by assumption) | refine Ext.trans ?_ (by assumption)))) (argW_wd hM.ty _ _)) ?_)
                    rintro _ w334_40 ⟨hE334_40, rfl⟩
                    have hz334_40 := hE334_40.1
                    try simp only [size_alloc, size_setB, size_drew] at hz334_40
                    refine WO_p (PS_assign_int rfl) ?_
                    refine WO_nil ?_
                    refine thn_normal ?_
                    refine W_ret ?_
                    refine inBlk_ret ?_
                    refine thn_ret ?_
                    refine bodyQ_ret1 Hvac.results243 rfl (.int _ _) rfl ?_
                    first
                    | (exfalso; omega)
                    | (refine ⟨(by repeat (first | assumption | exact Ext.refl _ | refine Ext.alloc ?_ _ | refine Ext.drew ?_ | refine Ext.setB ?_ (by first | omega | (simp only [size_alloc, size_setB, size_drew]; omega)) _ | refine Ext.trans ?_ (by assumption))), ?_, ?_⟩
                       · congr 1
                         unfold dynW
                         first
                         | (simp only [*]; simp; done)
                         | (simp only [*]; simp; omega)
                         | (simp_all; done)
                         | (simp_all; omega)
                         | (repeat (first | rw [if_pos (by omega)] | rw [if_neg (by omega)]))
                       · unfold dynW
                         repeat (first | omega | split))
                  · have hb39p := hb39.h; try simp only [al_ete, al_dfn, Bool.not_eq_true', Bool.not_eq_false', al_ne, Bool.not_not, al_nn] at hb39p
                    refine W_seq ?_
                    refine W_region rfl ?_
                    refine WO_p (PS_eql rfl rfl) ?_
                    refine WO_p (PS_assign_bool rfl) ?_
                    refine WO_nil ?_
                    refine thn_normal ?_
                    refine W_if rfl (fun hb43 => ?_) (fun hb43 => ?_)
                    · have hb43p := hb43.h; try simp only [al_ete, al_dfn, Bool.not_eq_true', Bool.not_eq_false', al_ne, Bool.not_not, al_nn] at hb43p
                      refine W_seq ?_
                      refine W_region rfl ?_
                      refine WO_p (PS_move_ptr rfl) ?_
                      refine WO_p (PS_move_ptr rfl) ?_
                      refine WO_p (PS_move_ptr rfl) ?_
                      refine WO_call Hvac.call239 (by rfl) (Ret.mono (arg_spec C c v B m t f _ _ (MS.ext hM (by repeat (first | assumption | exact Ext.refl _ | refine Ext.alloc ?_ _ | refine Ext.drew ?_ | refine Ext.setB ?_ (by first | omega | (simp only [size_alloc, size_setB, size_drew]; omega)) _ | exact Ext.trans (by assumption) (by assumption) | refine Ext.trans ?_ (by assumption)))) hA (by omega)) ?_)
                      rintro _ w239_43 ⟨hE239_43, rfl⟩
                      have hz239_43 := hE239_43.1
                      try simp only [size_alloc, size_setB, size_drew] at hz239_43
                      refine WO_call Hvac.call334 (by rfl) (Ret.mono (access_spec C c v B m _ _ (MS.ext hM (by repeat (first | assumption | exact Ext.refl _ | refine Ext.alloc ?_ _ | refine Ext.drew ?_ | refine Ext.setB ?_ (by first | omega | (simp only [size_alloc, size_setB, size_drew]; omega)) _ | exact Ext.trans (by assumption) (by assumption) | refine Ext.trans ?_ (by assumption)))) (argW_wd hM.ty _ _)) ?_)
                      rintro _ w334_44 ⟨hE334_44, rfl⟩
                      have hz334_44 := hE334_44.1
                      try simp only [size_alloc, size_setB, size_drew] at hz334_44
                      refine WO_p (PS_move_ptr rfl) ?_
                      refine WO_p (PS_move_ptr rfl) ?_
                      refine WO_call Hvac.call239 (by rfl) (Ret.mono (arg_spec C c v B m t f _ _ (MS.ext hM (by repeat (first | assumption | exact Ext.refl _ | refine Ext.alloc ?_ _ | refine Ext.drew ?_ | refine Ext.setB ?_ (by first | omega | (simp only [size_alloc, size_setB, size_drew]; omega)) _ | exact Ext.trans (by assumption) (by assumption) | refine Ext.trans ?_ (by assumption)))) hA (by omega)) ?_)
                      rintro _ w239_45 ⟨hE239_45, rfl⟩
                      have hz239_45 := hE239_45.1
                      try simp only [size_alloc, size_setB, size_drew] at hz239_45
                      refine WO_call Hvac.call332 (by rfl) (Ret.mono (lenX_ex _ _ (argW_wd hM.ty _ _) (by first | exact lenA hre (by omega) | exact lenB hre (by omega) | exact lenC hre (by omega) | exact lenD hre (by omega) | exact lenE hre (by omega))) ?_)
                      rintro _ w332_46 ⟨hE332_46, rfl, hx0332_46, hx1332_46⟩
                      have hz332_46 := hE332_46.1
                      try simp only [size_alloc, size_setB, size_drew] at hz332_46
                      refine WO_call Hvac.call333 (by rfl) (Ret.mono (copyCost_spec _ _ (by omega) (by omega)) ?_)
                      rintro _ w333_47 ⟨hE333_47, rfl⟩
                      have hz333_47 := hE333_47.1
                      try simp only [size_alloc, size_setB, size_drew] at hz333_47
                      refine WO_p (PS_add_u64n rfl rfl (by omega) (by omega)) ?_
                      refine WO_p (PS_assign_int rfl) ?_
                      refine WO_nil ?_
                      refine thn_normal ?_
                      refine W_ret ?_
                      refine inBlk_ret ?_
                      refine thn_ret ?_
                      refine bodyQ_ret1 Hvac.results243 rfl (.int _ _) rfl ?_
                      first
                      | (exfalso; omega)
                      | (refine ⟨(by repeat (first | assumption | exact Ext.refl _ | refine Ext.alloc ?_ _ | refine Ext.drew ?_ | refine Ext.setB ?_ (by first | omega | (simp only [size_alloc, size_setB, size_drew]; omega)) _ | refine Ext.trans ?_ (by assumption))), ?_, ?_⟩
                         · congr 1
                           unfold dynW
                           first
                           | (simp only [*]; simp; done)
                           | (simp only [*]; simp; omega)
                           | (simp_all; done)
                           | (simp_all; omega)
                           | (repeat (first | rw [if_pos (by omega)] | rw [if_neg (by omega)]))
                         · unfold dynW
                           repeat (first | omega | split))
                    · have hb43p := hb43.h; try simp only [al_ete, al_dfn, Bool.not_eq_true', Bool.not_eq_false', al_ne, Bool.not_not, al_nn] at hb43p
                      refine W_seq ?_
                      refine W_seq ?_
                      refine W_region rfl ?_
                      refine WO_p (PS_eql rfl rfl) ?_
                      refine WO_p (PS_assign_bool rfl) ?_
                      refine WO_nil ?_
                      refine thn_normal ?_
                      refine W_if rfl (fun hb50 => ?_) (fun hb50 => ?_)
                      · have hb50p := hb50.h; try simp only [al_ete, al_dfn, Bool.not_eq_true', Bool.not_eq_false', al_ne, Bool.not_not, al_nn] at hb50p
                        refine W_skip ?_
                        refine thn_normal ?_
                        refine W_condT rfl hb50.h ?_
                        refine W_seq ?_
                        refine W_region rfl ?_
                        refine WO_p (PS_move_ptr rfl) ?_
                        refine WO_p (PS_move_ptr rfl) ?_
                        refine WO_call Hvac.call239 (by rfl) (Ret.mono (arg_spec C c v B m t f _ _ (MS.ext hM (by repeat (first | assumption | exact Ext.refl _ | refine Ext.alloc ?_ _ | refine Ext.drew ?_ | refine Ext.setB ?_ (by first | omega | (simp only [size_alloc, size_setB, size_drew]; omega)) _ | exact Ext.trans (by assumption) (by assumption) | refine Ext.trans ?_ (by assumption)))) hA (by omega)) ?_)
                        rintro _ w239_50 ⟨hE239_50, rfl⟩
                        have hz239_50 := hE239_50.1
                        try simp only [size_alloc, size_setB, size_drew] at hz239_50
                        refine WO_call Hvac.call332 (by rfl) (Ret.mono (lenX_ex _ _ (argW_wd hM.ty _ _) (by first | exact lenA hre (by omega) | exact lenB hre (by omega) | exact lenC hre (by omega) | exact lenD hre (by omega) | exact lenE hre (by omega))) ?_)
                        rintro _ w332_51 ⟨hE332_51, rfl, hx0332_51, hx1332_51⟩
                        have hz332_51 := hE332_51.1
                        try simp only [size_alloc, size_setB, size_drew] at hz332_51
                        refine WO_p (PS_mul_u64n rfl rfl (by omega) (by omega)) ?_
                        refine WO_p (PS_assign_int rfl) ?_
                        refine WO_nil ?_
                        refine thn_normal ?_
                        refine W_ret ?_
                        refine inBlk_ret ?_
                        refine thn_ret ?_
                        refine bodyQ_ret1 Hvac.results243 rfl (.int _ _) rfl ?_
                        first
                        | (exfalso; omega)
                        | (refine ⟨(by repeat (first | assumption | exact Ext.refl _ | refine Ext.alloc ?_ _ | refine Ext.drew ?_ | refine Ext.setB ?_ (by first | omega | (simp only [size_alloc, size_setB, size_drew]; omega)) _ | refine Ext.trans ?_ (by assumption))), ?_, ?_⟩
                           · congr 1
                             unfold dynW
                             first
                             | (simp only [*]; simp; done)
                             | (simp only [*]; simp; omega)
                             | (simp_all; done)
                             | (simp_all; omega)
                             | (repeat (first | rw [if_pos (by omega)] | rw [if_neg (by omega)]))
                           · unfold dynW
                             repeat (first | omega | split))
                      · have hb50p := hb50.h; try simp only [al_ete, al_dfn, Bool.not_eq_true', Bool.not_eq_false', al_ne, Bool.not_not, al_nn] at hb50p
                        refine W_seq ?_
                        refine W_region rfl ?_
                        refine WO_p (PS_eql rfl rfl) ?_
                        refine WO_p (PS_assign_bool rfl) ?_
                        refine WO_nil ?_
                        refine thn_normal ?_
                        refine W_if rfl (fun hb54 => ?_) (fun hb54 => ?_)
                        · have hb54p := hb54.h; try simp only [al_ete, al_dfn, Bool.not_eq_true', Bool.not_eq_false', al_ne, Bool.not_not, al_nn] at hb54p
                          refine W_skip ?_
                          refine thn_normal ?_
                          refine W_condT rfl hb54.h ?_
                          refine W_seq ?_
                          refine W_region rfl ?_
                          refine WO_p (PS_move_ptr rfl) ?_
                          refine WO_p (PS_move_ptr rfl) ?_
                          refine WO_call Hvac.call239 (by rfl) (Ret.mono (arg_spec C c v B m t f _ _ (MS.ext hM (by repeat (first | assumption | exact Ext.refl _ | refine Ext.alloc ?_ _ | refine Ext.drew ?_ | refine Ext.setB ?_ (by first | omega | (simp only [size_alloc, size_setB, size_drew]; omega)) _ | exact Ext.trans (by assumption) (by assumption) | refine Ext.trans ?_ (by assumption)))) hA (by omega)) ?_)
                          rintro _ w239_54 ⟨hE239_54, rfl⟩
                          have hz239_54 := hE239_54.1
                          try simp only [size_alloc, size_setB, size_drew] at hz239_54
                          refine WO_call Hvac.call332 (by rfl) (Ret.mono (lenX_ex _ _ (argW_wd hM.ty _ _) (by first | exact lenA hre (by omega) | exact lenB hre (by omega) | exact lenC hre (by omega) | exact lenD hre (by omega) | exact lenE hre (by omega))) ?_)
                          rintro _ w332_55 ⟨hE332_55, rfl, hx0332_55, hx1332_55⟩
                          have hz332_55 := hE332_55.1
                          try simp only [size_alloc, size_setB, size_drew] at hz332_55
                          refine WO_p (PS_mul_u64n rfl rfl (by omega) (by omega)) ?_
                          refine WO_p (PS_assign_int rfl) ?_
                          refine WO_nil ?_
                          refine thn_normal ?_
                          refine W_ret ?_
                          refine inBlk_ret ?_
                          refine thn_ret ?_
                          refine bodyQ_ret1 Hvac.results243 rfl (.int _ _) rfl ?_
                          first
                          | (exfalso; omega)
                          | (refine ⟨(by repeat (first | assumption | exact Ext.refl _ | refine Ext.alloc ?_ _ | refine Ext.drew ?_ | refine Ext.setB ?_ (by first | omega | (simp only [size_alloc, size_setB, size_drew]; omega)) _ | refine Ext.trans ?_ (by assumption))), ?_, ?_⟩
                             · congr 1
                               unfold dynW
                               first
                               | (simp only [*]; simp; done)
                               | (simp only [*]; simp; omega)
                               | (simp_all; done)
                               | (simp_all; omega)
                               | (repeat (first | rw [if_pos (by omega)] | rw [if_neg (by omega)]))
                             · unfold dynW
                               repeat (first | omega | split))
                        · have hb54p := hb54.h; try simp only [al_ete, al_dfn, Bool.not_eq_true', Bool.not_eq_false', al_ne, Bool.not_not, al_nn] at hb54p
                          refine W_seq ?_
                          refine W_region rfl ?_
                          refine WO_p (PS_eql rfl rfl) ?_
                          refine WO_p (PS_assign_bool rfl) ?_
                          refine WO_nil ?_
                          refine thn_normal ?_
                          refine W_if rfl (fun hb58 => ?_) (fun hb58 => ?_)
                          · have hb58p := hb58.h; try simp only [al_ete, al_dfn, Bool.not_eq_true', Bool.not_eq_false', al_ne, Bool.not_not, al_nn] at hb58p
                            refine W_skip ?_
                            refine thn_normal ?_
                            refine W_condT rfl hb58.h ?_
                            refine W_seq ?_
                            refine W_region rfl ?_
                            refine WO_p (PS_move_ptr rfl) ?_
                            refine WO_p (PS_move_ptr rfl) ?_
                            refine WO_call Hvac.call239 (by rfl) (Ret.mono (arg_spec C c v B m t f _ _ (MS.ext hM (by repeat (first | assumption | exact Ext.refl _ | refine Ext.alloc ?_ _ | refine Ext.drew ?_ | refine Ext.setB ?_ (by first | omega | (simp only [size_alloc, size_setB, size_drew]; omega)) _ | exact Ext.trans (by assumption) (by assumption) | refine Ext.trans ?_ (by assumption)))) hA (by omega)) ?_)
                            rintro _ w239_58 ⟨hE239_58, rfl⟩
                            have hz239_58 := hE239_58.1
                            try simp only [size_alloc, size_setB, size_drew] at hz239_58
                            refine WO_call Hvac.call332 (by rfl) (Ret.mono (lenX_ex _ _ (argW_wd hM.ty _ _) (by first | exact lenA hre (by omega) | exact lenB hre (by omega) | exact lenC hre (by omega) | exact lenD hre (by omega) | exact lenE hre (by omega))) ?_)
                            rintro _ w332_59 ⟨hE332_59, rfl, hx0332_59, hx1332_59⟩
                            have hz332_59 := hE332_59.1
                            try simp only [size_alloc, size_setB, size_drew] at hz332_59
                            refine WO_p (PS_mul_u64n rfl rfl (by omega) (by omega)) ?_
                            refine WO_p (PS_assign_int rfl) ?_
                            refine WO_nil ?_
                            refine thn_normal ?_
                            refine W_ret ?_
                            refine inBlk_ret ?_
                            refine thn_ret ?_
                            refine bodyQ_ret1 Hvac.results243 rfl (.int _ _) rfl ?_
                            first
                            | (exfalso; omega)
                            | (refine ⟨(by repeat (first | assumption | exact Ext.refl _ | refine Ext.alloc ?_ _ | refine Ext.drew ?_ | refine Ext.setB ?_ (by first | omega | (simp only [size_alloc, size_setB, size_drew]; omega)) _ | refine Ext.trans ?_ (by assumption))), ?_, ?_⟩
                               · congr 1
                                 unfold dynW
                                 first
                                 | (simp only [*]; simp; done)
                                 | (simp only [*]; simp; omega)
                                 | (simp_all; done)
                                 | (simp_all; omega)
                                 | (repeat (first | rw [if_pos (by omega)] | rw [if_neg (by omega)]))
                               · unfold dynW
                                 repeat (first | omega | split))
                          · have hb58p := hb58.h; try simp only [al_ete, al_dfn, Bool.not_eq_true', Bool.not_eq_false', al_ne, Bool.not_not, al_nn] at hb58p
                            refine W_seq ?_
                            refine W_region rfl ?_
                            refine WO_p (PS_eql rfl rfl) ?_
                            refine WO_p (PS_assign_bool rfl) ?_
                            refine WO_nil ?_
                            refine thn_normal ?_
                            refine W_if rfl (fun hb62 => ?_) (fun hb62 => ?_)
                            · have hb62p := hb62.h; try simp only [al_ete, al_dfn, Bool.not_eq_true', Bool.not_eq_false', al_ne, Bool.not_not, al_nn] at hb62p
                              refine W_skip ?_
                              refine thn_normal ?_
                              refine W_condT rfl hb62.h ?_
                              refine W_seq ?_
                              refine W_region rfl ?_
                              refine WO_p (PS_move_ptr rfl) ?_
                              refine WO_p (PS_move_ptr rfl) ?_
                              refine WO_call Hvac.call239 (by rfl) (Ret.mono (arg_spec C c v B m t f _ _ (MS.ext hM (by repeat (first | assumption | exact Ext.refl _ | refine Ext.alloc ?_ _ | refine Ext.drew ?_ | refine Ext.setB ?_ (by first | omega | (simp only [size_alloc, size_setB, size_drew]; omega)) _ | exact Ext.trans (by assumption) (by assumption) | refine Ext.trans ?_ (by assumption)))) hA (by omega)) ?_)
                              rintro _ w239_62 ⟨hE239_62, rfl⟩
                              have hz239_62 := hE239_62.1
                              try simp only [size_alloc, size_setB, size_drew] at hz239_62
                              refine WO_call Hvac.call332 (by rfl) (Ret.mono (lenX_ex _ _ (argW_wd hM.ty _ _) (by first | exact lenA hre (by omega) | exact lenB hre (by omega) | exact lenC hre (by omega) | exact lenD hre (by omega) | exact lenE hre (by omega))) ?_)
                              rintro _ w332_63 ⟨hE332_63, rfl, hx0332_63, hx1332_63⟩
                              have hz332_63 := hE332_63.1
                              try simp only [size_alloc, size_setB, size_drew] at hz332_63
                              refine WO_p (PS_mul_u64n rfl rfl (by omega) (by omega)) ?_
                              refine WO_p (PS_assign_int rfl) ?_
                              refine WO_nil ?_
                              refine thn_normal ?_
                              refine W_ret ?_
                              refine inBlk_ret ?_
                              refine thn_ret ?_
                              refine bodyQ_ret1 Hvac.results243 rfl (.int _ _) rfl ?_
                              first
                              | (exfalso; omega)
                              | (refine ⟨(by repeat (first | assumption | exact Ext.refl _ | refine Ext.alloc ?_ _ | refine Ext.drew ?_ | refine Ext.setB ?_ (by first | omega | (simp only [size_alloc, size_setB, size_drew]; omega)) _ | refine Ext.trans ?_ (by assumption))), ?_, ?_⟩
                                 · congr 1
                                   unfold dynW
                                   first
                                   | (simp only [*]; simp; done)
                                   | (simp only [*]; simp; omega)
                                   | (simp_all; done)
                                   | (simp_all; omega)
                                   | (repeat (first | rw [if_pos (by omega)] | rw [if_neg (by omega)]))
                                 · unfold dynW
                                   repeat (first | omega | split))
                            · have hb62p := hb62.h; try simp only [al_ete, al_dfn, Bool.not_eq_true', Bool.not_eq_false', al_ne, Bool.not_not, al_nn] at hb62p
                              refine W_region rfl ?_
                              refine WO_p (PS_eql rfl rfl) ?_
                              refine WO_p (PS_assign_bool rfl) ?_
                              refine WO_nil ?_
                              refine thn_normal ?_
                              refine W_if rfl (fun hb66 => ?_) (fun hb66 => ?_)
                              · have hb66p := hb66.h; try simp only [al_ete, al_dfn, Bool.not_eq_true', Bool.not_eq_false', al_ne, Bool.not_not, al_nn] at hb66p
                                refine W_seq ?_
                                refine W_region rfl ?_
                                refine WO_p (PS_move_ptr rfl) ?_
                                refine WO_p (PS_move_ptr rfl) ?_
                                refine WO_call Hvac.call239 (by rfl) (Ret.mono (arg_spec C c v B m t f _ _ (MS.ext hM (by repeat (first | assumption | exact Ext.refl _ | refine Ext.alloc ?_ _ | refine Ext.drew ?_ | refine Ext.setB ?_ (by first | omega | (simp only [size_alloc, size_setB, size_drew]; omega)) _ | exact Ext.trans (by assumption) (by assumption) | refine Ext.trans ?_ (by assumption)))) hA (by omega)) ?_)
                                rintro _ w239_66 ⟨hE239_66, rfl⟩
                                have hz239_66 := hE239_66.1
                                try simp only [size_alloc, size_setB, size_drew] at hz239_66
                                refine WO_call Hvac.call332 (by rfl) (Ret.mono (lenX_ex _ _ (argW_wd hM.ty _ _) (by first | exact lenA hre (by omega) | exact lenB hre (by omega) | exact lenC hre (by omega) | exact lenD hre (by omega) | exact lenE hre (by omega))) ?_)
                                rintro _ w332_67 ⟨hE332_67, rfl, hx0332_67, hx1332_67⟩
                                have hz332_67 := hE332_67.1
                                try simp only [size_alloc, size_setB, size_drew] at hz332_67
                                refine WO_p (PS_mul_u64n rfl rfl (by omega) (by omega)) ?_
                                refine WO_p (PS_assign_int rfl) ?_
                                refine WO_nil ?_
                                refine thn_normal ?_
                                refine W_ret ?_
                                refine inBlk_ret ?_
                                refine thn_ret ?_
                                refine bodyQ_ret1 Hvac.results243 rfl (.int _ _) rfl ?_
                                first
                                | (exfalso; omega)
                                | (refine ⟨(by repeat (first | assumption | exact Ext.refl _ | refine Ext.alloc ?_ _ | refine Ext.drew ?_ | refine Ext.setB ?_ (by first | omega | (simp only [size_alloc, size_setB, size_drew]; omega)) _ | refine Ext.trans ?_ (by assumption))), ?_, ?_⟩
                                   · congr 1
                                     unfold dynW
                                     first
                                     | (simp only [*]; simp; done)
                                     | (simp only [*]; simp; omega)
                                     | (simp_all; done)
                                     | (simp_all; omega)
                                     | (repeat (first | rw [if_pos (by omega)] | rw [if_neg (by omega)]))
                                   · unfold dynW
                                     repeat (first | omega | split))
                              · have hb66p := hb66.h; try simp only [al_ete, al_dfn, Bool.not_eq_true', Bool.not_eq_false', al_ne, Bool.not_not, al_nn] at hb66p
                                refine W_seq ?_
                                refine W_region rfl ?_
                                refine WO_p (PS_eql rfl rfl) ?_
                                refine WO_p (PS_assign_bool rfl) ?_
                                refine WO_nil ?_
                                refine thn_normal ?_
                                refine W_if rfl (fun hb70 => ?_) (fun hb70 => ?_)
                                · have hb70p := hb70.h; try simp only [al_ete, al_dfn, Bool.not_eq_true', Bool.not_eq_false', al_ne, Bool.not_not, al_nn] at hb70p
                                  refine W_seq ?_
                                  refine W_seq ?_
                                  refine W_drawE [false, false, false, false, false, false, false, false, false, false, true, false] hmix (by kernel_rfl) rfl ?_
                                  refine WH_p (PS_move_ptr rfl) rfl ?_
                                  refine WH_p (PS_nilCheck rfl) rfl ?_
                                  refine WH_p (PS_fieldAddr 0 Hvac.runUnderlying70 rfl Hvac.sizeOf55 rfl rfl) rfl ?_
                                  refine WH_load (.pointer _) Hvac.isAgg55 rfl (Hb.h (by repeat (first | assumption | exact Hb.newY _ _ | refine Hb.alloc ?_ | refine Hb.drew ?_ | refine Hb.ext (by assumption) ?_ | exact Hb.setSameL (by first | omega | (simp only [size_alloc, size_setB, size_drew]; omega)) | exact Hb.setSame (by assumption) | refine Hb.set (by first | omega | (simp only [size_alloc, size_setB, size_drew]; omega)) ?_ ))) (Ce.h (by first | assumption | exact ⟨rfl⟩)) ?_
                                  refine WH_p (PS_move_ptr rfl) rfl ?_
                                  refine WH_p (PS_nilCheck rfl) rfl ?_
                                  refine WH_p (PS_fieldAddr 9 Hvac.runUnderlying66 rfl Hvac.sizeOf25 rfl rfl) rfl ?_
                                  refine WH_loadA _ Hvac.isAgg25 Hvac.sizeOf25 rfl (Hb.h (by repeat (first | assumption | exact Hb.newY _ _ | refine Hb.alloc ?_ | refine Hb.drew ?_ | refine Hb.ext (by assumption) ?_ | exact Hb.setSameL (by first | omega | (simp only [size_alloc, size_setB, size_drew]; omega)) | exact Hb.setSame (by assumption) | refine Hb.set (by first | omega | (simp only [size_alloc, size_setB, size_drew]; omega)) ?_ ))) (by first | omega | assumption | rfl | decide | exact Nat.le_refl _ | (simp only [size_ic, Value.cells]; omega) | (simp; omega) | simp) (Xt.h (by first | assumption | exact Xt.whole rfl rfl | exact Xt.whole rfl (by assumption) | exact Xt.whole rfl (by simp only [size_ic, Value.cells]; omega) | exact ⟨rfl⟩)) ?_
                                  refine WH_p (PS_move_ptr rfl) rfl ?_
                                  refine WH_p (PS_move_ptr rfl) rfl ?_
                                  refine WH_call Hvac.call239 (by rfl) (Ret.mono (arg_spec C c v B m t f _ _ (MS.ext hM (by repeat (first | assumption | exact Ext.refl _ | refine Ext.alloc ?_ _ | refine Ext.drew ?_ | refine Ext.setB ?_ (by first | omega | (simp only [size_alloc, size_setB, size_drew]; omega)) _ | exact Ext.trans (by assumption) (by assumption) | refine Ext.trans ?_ (by assumption)))) hA (by omega)) ?_)
                                  rintro _ w239_70 ⟨hE239_70, rfl⟩
                                  refine ⟨fun _ => (by repeat (first | assumption | exact Ext.refl _ | refine Ext.alloc ?_ _ | refine Ext.drew ?_ | refine Ext.setB ?_ (by first | omega | (simp only [size_alloc, size_setB, size_drew]; omega)) _ | exact Ext.trans (by assumption) (by assumption) | refine Ext.trans ?_ (by assumption))), ?_⟩
                                  have hz239_70 := hE239_70.1
                                  try simp only [size_alloc, size_setB, size_drew] at hz239_70
                                  refine WH_call Hvac.call150 (by rfl) (Ret.mono (isWarmS_spec C c v B (bb m) _ _ _ (VS.ext hM.vs (by repeat (first | assumption | exact Ext.refl _ | refine Ext.alloc ?_ _ | refine Ext.drew ?_ | refine Ext.setB ?_ (by first | omega | (simp only [size_alloc, size_setB, size_drew]; omega)) _ | exact Ext.trans (by assumption) (by assumption) | refine Ext.trans ?_ (by assumption)))) (by first | assumption | exact addrW_by _) (by first | assumption | exact argW_wd hM.ty _ _ | exact Wd0)) ?_)
                                  rintro _ w150_71 ⟨rfl, hE150_71⟩
                                  refine ⟨(fun h => by cases h), ?_⟩
                                  have hz150_71 := hE150_71.1
                                  try simp only [size_alloc, size_setB, size_drew] at hz150_71
                                  refine WH_nil ?_
                                  refine thn_normal ?_
                                  refine W_if rfl (fun hb73 => ?_) (fun hb73 => ?_)
                                  · have hb73p := hb73.h; try simp only [al_ete, al_dfn, Bool.not_eq_true', Bool.not_eq_false', al_ne, Bool.not_not, al_nn] at hb73p
                                    refine W_seq ?_
                                    refine W_region rfl ?_
                                    refine WO_p (PS_assign_int rfl) ?_
                                    refine WO_nil ?_
                                    refine thn_normal ?_
                                    refine W_ret ?_
                                    refine thn_ret ?_
                                    refine inBlk_ret ?_
                                    refine thn_ret ?_
                                    refine bodyQ_ret1 Hvac.results243 rfl (.int _ _) rfl ?_
                                    first
                                    | (exfalso; omega)
                                    | (refine ⟨(by repeat (first | assumption | exact Ext.refl _ | refine Ext.alloc ?_ _ | refine Ext.drew ?_ | refine Ext.setB ?_ (by first | omega | (simp only [size_alloc, size_setB, size_drew]; omega)) _ | refine Ext.trans ?_ (by assumption))), ?_, ?_⟩
                                       · congr 1
                                         unfold dynW
                                         first
                                         | (simp only [*]; simp; done)
                                         | (simp only [*]; simp; omega)
                                         | (simp_all; done)
                                         | (simp_all; omega)
                                         | (repeat (first | rw [if_pos (by omega)] | rw [if_neg (by omega)]))
                                       · unfold dynW
                                         repeat (first | omega | split))
                                  · have hb73p := hb73.h; try simp only [al_ete, al_dfn, Bool.not_eq_true', Bool.not_eq_false', al_ne, Bool.not_not, al_nn] at hb73p
                                    refine W_skip ?_
                                    refine thn_normal ?_
                                    refine W_seq ?_
                                    refine W_region rfl ?_
                                    refine WO_p (PS_assign_int rfl) ?_
                                    refine WO_nil ?_
                                    refine thn_normal ?_
                                    refine W_ret ?_
                                    refine inBlk_ret ?_
                                    refine thn_ret ?_
                                    refine bodyQ_ret1 Hvac.results243 rfl (.int _ _) rfl ?_
                                    first
                                    | (exfalso; omega)
                                    | (refine ⟨(by repeat (first | assumption | exact Ext.refl _ | refine Ext.alloc ?_ _ | refine Ext.drew ?_ | refine Ext.setB ?_ (by first | omega | (simp only [size_alloc, size_setB, size_drew]; omega)) _ | refine Ext.trans ?_ (by assumption))), ?_, ?_⟩
                                       · congr 1
                                         unfold dynW
                                         first
                                         | (simp only [*]; simp; done)
                                         | (simp only [*]; simp; omega)
                                         | (simp_all; done)
                                         | (simp_all; omega)
                                         | (repeat (first | rw [if_pos (by omega)] | rw [if_neg (by omega)]))
                                       · unfold dynW
                                         repeat (first | omega | split))
                                · have hb70p := hb70.h; try simp only [al_ete, al_dfn, Bool.not_eq_true', Bool.not_eq_false', al_ne, Bool.not_not, al_nn] at hb70p
                                  refine W_seq ?_
                                  refine W_region rfl ?_
                                  refine WO_p (PS_eql rfl rfl) ?_
                                  refine WO_p (PS_assign_bool rfl) ?_
                                  refine WO_nil ?_
                                  refine thn_normal ?_
                                  refine W_if rfl (fun hb75 => ?_) (fun hb75 => ?_)
                                  · have hb75p := hb75.h; try simp only [al_ete, al_dfn, Bool.not_eq_true', Bool.not_eq_false', al_ne, Bool.not_not, al_nn] at hb75p
                                    refine W_seq ?_
                                    refine W_region rfl ?_
                                    refine WO_p (PS_move_ptr rfl) ?_
                                    refine WO_p (PS_move_ptr rfl) ?_
                                    refine WO_call Hvac.call335 (by rfl) (Ret.mono (mSstore_spec C c v B m t f _ (MS.ext hM (by repeat (first | assumption | exact Ext.refl _ | refine Ext.alloc ?_ _ | refine Ext.drew ?_ | refine Ext.setB ?_ (by first | omega | (simp only [size_alloc, size_setB, size_drew]; omega)) _ | exact Ext.trans (by assumption) (by assumption) | refine Ext.trans ?_ (by assumption)))) hA) ?_)
                                    rintro _ w335_75 ⟨hE335_75, rfl⟩
                                    have hz335_75 := hE335_75.1
                                    try simp only [size_alloc, size_setB, size_drew] at hz335_75
                                    refine WO_p (PS_move_tuple rfl) ?_
                                    refine WO_p (PS_extract_int rfl rfl) ?_
                                    refine WO_p (PS_extract_int rfl rfl) ?_
                                    refine WO_p (PS_extract_int rfl rfl) ?_
                                    refine WO_p (PS_assign_int rfl) ?_
                                    refine WO_p (PS_assign_int rfl) ?_
                                    refine WO_p (PS_assign_int rfl) ?_
                                    refine WO_nil ?_
                                    refine thn_normal ?_
                                    refine W_seq ?_
                                    refine W_region rfl ?_
                                    refine WO_p (PS_move_int rfl) ?_
                                    refine WO_p (PS_assign_int rfl) ?_
                                    refine WO_nil ?_
                                    refine thn_normal ?_
                                    refine W_ret ?_
                                    refine inBlk_ret ?_
                                    refine thn_ret ?_
                                    refine bodyQ_ret1 Hvac.results243 rfl (.int _ _) rfl ?_
                                    first
                                    | (exfalso; omega)
                                    | (refine ⟨(by repeat (first | assumption | exact Ext.refl _ | refine Ext.alloc ?_ _ | refine Ext.drew ?_ | refine Ext.setB ?_ (by first | omega | (simp only [size_alloc, size_setB, size_drew]; omega)) _ | refine Ext.trans ?_ (by assumption))), ?_, ?_⟩
                                       · congr 1
                                         unfold dynW
                                         first
                                         | (simp only [*]; simp; done)
                                         | (simp only [*]; simp; omega)
                                         | (simp_all; done)
                                         | (simp_all; omega)
                                         | (repeat (first | rw [if_pos (by omega)] | rw [if_neg (by omega)]))
                                       · unfold dynW
                                         repeat (first | omega | split))
                                  · have hb75p := hb75.h; try simp only [al_ete, al_dfn, Bool.not_eq_true', Bool.not_eq_false', al_ne, Bool.not_not, al_nn] at hb75p
                                    refine W_seq ?_
                                    refine W_region rfl ?_
                                    refine WO_p (PS_eql rfl rfl) ?_
                                    refine WO_p (PS_assign_bool rfl) ?_
                                    refine WO_nil ?_
                                    refine thn_normal ?_
                                    refine W_if rfl (fun hb78 => ?_) (fun hb78 => ?_)
                                    · have hb78p := hb78.h; try simp only [al_ete, al_dfn, Bool.not_eq_true', Bool.not_eq_false', al_ne, Bool.not_not, al_nn] at hb78p
                                      refine W_seq ?_
                                      refine W_region rfl ?_
                                      refine WO_p (PS_move_ptr rfl) ?_
                                      refine WO_p (PS_move_ptr rfl) ?_
                                      refine WO_call Hvac.call239 (by rfl) (Ret.mono (arg_spec C c v B m t f _ _ (MS.ext hM (by repeat (first | assumption | exact Ext.refl _ | refine Ext.alloc ?_ _ | refine Ext.drew ?_ | refine Ext.setB ?_ (by first | omega | (simp only [size_alloc, size_setB, size_drew]; omega)) _ | exact Ext.trans (by assumption) (by assumption) | refine Ext.trans ?_ (by assumption)))) hA (by omega)) ?_)
                                      rintro _ w239_78 ⟨hE239_78, rfl⟩
                                      have hz239_78 := hE239_78.1
                                      try simp only [size_alloc, size_setB, size_drew] at hz239_78
                                      refine WO_call Hvac.call332 (by rfl) (Ret.mono (lenX_ex _ _ (argW_wd hM.ty _ _) (by first | exact lenA hre (by omega) | exact lenB hre (by omega) | exact lenC hre (by omega) | exact lenD hre (by omega) | exact lenE hre (by omega))) ?_)
                                      rintro _ w332_79 ⟨hE332_79, rfl, hx0332_79, hx1332_79⟩
                                      have hz332_79 := hE332_79.1
                                      try simp only [size_alloc, size_setB, size_drew] at hz332_79
                                      refine WO_call Hvac.call142 (by rfl) (Ret.mono (words_spec _ _ ⟨by omega, by omega⟩) ?_)
                                      rintro _ _ ⟨rfl, rfl⟩
                                      refine WO_p (PS_mul_u64n rfl rfl (by omega) (by omega)) ?_
                                      refine WO_p (PS_assign_int rfl) ?_
                                      refine WO_nil ?_
                                      refine thn_normal ?_
                                      refine W_ret ?_
                                      refine inBlk_ret ?_
                                      refine thn_ret ?_
                                      refine bodyQ_ret1 Hvac.results243 rfl (.int _ _) rfl ?_
                                      first
                                      | (exfalso; omega)
                                      | (refine ⟨(by repeat (first | assumption | exact Ext.refl _ | refine Ext.alloc ?_ _ | refine Ext.drew ?_ | refine Ext.setB ?_ (by first | omega | (simp only [size_alloc, size_setB, size_drew]; omega)) _ | refine Ext.trans ?_ (by assumption))), ?_, ?_⟩
                                         · congr 1
                                           unfold dynW
                                           first
                                           | (simp only [*]; simp; done)
                                           | (simp only [*]; simp; omega)
                                           | (simp_all; done)
                                           | (simp_all; omega)
                                           | (repeat (first | rw [if_pos (by omega)] | rw [if_neg (by omega)]))
                                         · unfold dynW
                                           repeat (first | omega | split))
                                    · have hb78p := hb78.h; try simp only [al_ete, al_dfn, Bool.not_eq_true', Bool.not_eq_false', al_ne, Bool.not_not, al_nn] at hb78p
                                      refine W_seq ?_
                                      refine W_region rfl ?_
                                      refine WO_p (PS_eql rfl rfl) ?_
                                      refine WO_p (PS_assign_bool rfl) ?_
                                      refine WO_nil ?_
                                      refine thn_normal ?_
                                      refine W_if rfl (fun hb83 => ?_) (fun hb83 => ?_)
                                      · have hb83p := hb83.h; try simp only [al_ete, al_dfn, Bool.not_eq_true', Bool.not_eq_false', al_ne, Bool.not_not, al_nn] at hb83p
                                        refine W_seq ?_
                                        refine W_region rfl ?_
                                        refine WO_p (PS_move_ptr rfl) ?_
                                        refine WO_p (PS_move_ptr rfl) ?_
                                        refine WO_call Hvac.call239 (by rfl) (Ret.mono (arg_spec C c v B m t f _ _ (MS.ext hM (by repeat (first | assumption | exact Ext.refl _ | refine Ext.alloc ?_ _ | refine Ext.drew ?_ | refine Ext.setB ?_ (by first | omega | (simp only [size_alloc, size_setB, size_drew]; omega)) _ | exact Ext.trans (by assumption) (by assumption) | refine Ext.trans ?_ (by assumption)))) hA (by omega)) ?_)
                                        rintro _ w239_83 ⟨hE239_83, rfl⟩
                                        have hz239_83 := hE239_83.1
                                        try simp only [size_alloc, size_setB, size_drew] at hz239_83
                                        refine WO_call Hvac.call332 (by rfl) (Ret.mono (lenX_ex _ _ (argW_wd hM.ty _ _) (by first | exact lenA hre (by omega) | exact lenB hre (by omega) | exact lenC hre (by omega) | exact lenD hre (by omega) | exact lenE hre (by omega))) ?_)
                                        rintro _ w332_84 ⟨hE332_84, rfl, hx0332_84, hx1332_84⟩
                                        have hz332_84 := hE332_84.1
                                        try simp only [size_alloc, size_setB, size_drew] at hz332_84
                                        refine WO_call Hvac.call142 (by rfl) (Ret.mono (words_spec _ _ ⟨by omega, by omega⟩) ?_)
                                        rintro _ _ ⟨rfl, rfl⟩
                                        refine WO_p (PS_mul_u64n rfl rfl (by omega) (by omega)) ?_
                                        refine WO_p (PS_assign_int rfl) ?_
                                        refine WO_nil ?_
                                        refine thn_normal ?_
                                        refine W_ret ?_
                                        refine inBlk_ret ?_
                                        refine thn_ret ?_
                                        refine bodyQ_ret1 Hvac.results243 rfl (.int _ _) rfl ?_
                                        first
                                        | (exfalso; omega)
                                        | (refine ⟨(by repeat (first | assumption | exact Ext.refl _ | refine Ext.alloc ?_ _ | refine Ext.drew ?_ | refine Ext.setB ?_ (by first | omega | (simp only [size_alloc, size_setB, size_drew]; omega)) _ | refine Ext.trans ?_ (by assumption))), ?_, ?_⟩
                                           · congr 1
                                             unfold dynW
                                             first
                                             | (simp only [*]; simp; done)
                                             | (simp only [*]; simp; omega)
                                             | (simp_all; done)
                                             | (simp_all; omega)
                                             | (repeat (first | rw [if_pos (by omega)] | rw [if_neg (by omega)]))
                                           · unfold dynW
                                             repeat (first | omega | split))
                                      · have hb83p := hb83.h; try simp only [al_ete, al_dfn, Bool.not_eq_true', Bool.not_eq_false', al_ne, Bool.not_not, al_nn] at hb83p
                                        refine W_seq ?_
                                        refine W_seq ?_
                                        refine W_region rfl ?_
                                        refine WO_p (PS_eql rfl rfl) ?_
                                        refine WO_p (PS_assign_bool rfl) ?_
                                        refine WO_nil ?_
                                        refine thn_normal ?_
                                        refine W_if rfl (fun hb88 => ?_) (fun hb88 => ?_)
                                        · have hb88p := hb88.h; try simp only [al_ete, al_dfn, Bool.not_eq_true', Bool.not_eq_false', al_ne, Bool.not_not, al_nn] at hb88p
                                          refine W_skip ?_
                                          refine thn_normal ?_
                                          refine W_condT rfl hb88.h ?_
                                          refine W_seq ?_
                                          refine W_region rfl ?_
                                          refine WO_p (PS_move_ptr rfl) ?_
                                          refine WO_p (PS_move_ptr rfl) ?_
                                          refine WO_p (PS_move_ptr rfl) ?_
                                          refine WO_call Hvac.call239 (by rfl) (Ret.mono (arg_spec C c v B m t f _ _ (MS.ext hM (by repeat (first | assumption | exact Ext.refl _ | refine Ext.alloc ?_ _ | refine Ext.drew ?_ | refine Ext.setB ?_ (by first | omega | (simp only [size_alloc, size_setB, size_drew]; omega)) _ | exact Ext.trans (by assumption) (by assumption) | refine Ext.trans ?_ (by assumption)))) hA (by omega)) ?_)
                                          rintro _ w239_88 ⟨hE239_88, rfl⟩
                                          have hz239_88 := hE239_88.1
                                          try simp only [size_alloc, size_setB, size_drew] at hz239_88
                                          refine WO_call Hvac.call334 (by rfl) (Ret.mono (access_spec C c v B m _ _ (MS.ext hM (by repeat (first | assumption | exact Ext.refl _ | refine Ext.alloc ?_ _ | refine Ext.drew ?_ | refine Ext.setB ?_ (by first | omega | (simp only [size_alloc, size_setB, size_drew]; omega)) _ | exact Ext.trans (by assumption) (by assumption) | refine Ext.trans ?_ (by assumption)))) (argW_wd hM.ty _ _)) ?_)
                                          rintro _ w334_89 ⟨hE334_89, rfl⟩
                                          have hz334_89 := hE334_89.1
                                          try simp only [size_alloc, size_setB, size_drew] at hz334_89
                                          refine WO_p (PS_assign_int rfl) ?_
                                          refine WO_nil ?_
                                          refine thn_normal ?_
                                          refine W_ret ?_
                                          refine inBlk_ret ?_
                                          refine thn_ret ?_
                                          refine bodyQ_ret1 Hvac.results243 rfl (.int _ _) rfl ?_
                                          first
                                          | (exfalso; omega)
                                          | (refine ⟨(by repeat (first | assumption | exact Ext.refl _ | refine Ext.alloc ?_ _ | refine Ext.drew ?_ | refine Ext.setB ?_ (by first | omega | (simp only [size_alloc, size_setB, size_drew]; omega)) _ | refine Ext.trans ?_ (by assumption))), ?_, ?_⟩
                                             · congr 1
                                               unfold dynW
                                               first
                                               | (simp only [*]; simp; done)
                                               | (simp only [*]; simp; omega)
                                               | (simp_all; done)
                                               | (simp_all; omega)
                                               | (repeat (first | rw [if_pos (by omega)] | rw [if_neg (by omega)]))
                                             · unfold dynW
                                               repeat (first | omega | split))
                                        · have hb88p := hb88.h; try simp only [al_ete, al_dfn, Bool.not_eq_true', Bool.not_eq_false', al_ne, Bool.not_not, al_nn] at hb88p
                                          refine W_region rfl ?_
                                          refine WO_p (PS_eql rfl rfl) ?_
                                          refine WO_p (PS_assign_bool rfl) ?_
                                          refine WO_nil ?_
                                          refine thn_normal ?_
                                          refine W_if rfl (fun hb92 => ?_) (fun hb92 => ?_)
                                          · have hb92p := hb92.h; try simp only [al_ete, al_dfn, Bool.not_eq_true', Bool.not_eq_false', al_ne, Bool.not_not, al_nn] at hb92p
                                            refine W_seq ?_
                                            refine W_region rfl ?_
                                            refine WO_p (PS_move_ptr rfl) ?_
                                            refine WO_p (PS_move_ptr rfl) ?_
                                            refine WO_p (PS_move_ptr rfl) ?_
                                            refine WO_call Hvac.call239 (by rfl) (Ret.mono (arg_spec C c v B m t f _ _ (MS.ext hM (by repeat (first | assumption | exact Ext.refl _ | refine Ext.alloc ?_ _ | refine Ext.drew ?_ | refine Ext.setB ?_ (by first | omega | (simp only [size_alloc, size_setB, size_drew]; omega)) _ | exact Ext.trans (by assumption) (by assumption) | refine Ext.trans ?_ (by assumption)))) hA (by omega)) ?_)
                                            rintro _ w239_92 ⟨hE239_92, rfl⟩
                                            have hz239_92 := hE239_92.1
                                            try simp only [size_alloc, size_setB, size_drew] at hz239_92
                                            refine WO_call Hvac.call334 (by rfl) (Ret.mono (access_spec C c v B m _ _ (MS.ext hM (by repeat (first | assumption | exact Ext.refl _ | refine Ext.alloc ?_ _ | refine Ext.drew ?_ | refine Ext.setB ?_ (by first | omega | (simp only [size_alloc, size_setB, size_drew]; omega)) _ | exact Ext.trans (by assumption) (by assumption) | refine Ext.trans ?_ (by assumption)))) (argW_wd hM.ty _ _)) ?_)
                                            rintro _ w334_93 ⟨hE334_93, rfl⟩
                                            have hz334_93 := hE334_93.1
                                            try simp only [size_alloc, size_setB, size_drew] at hz334_93
                                            refine WO_p (PS_assign_int rfl) ?_
                                            refine WO_nil ?_
                                            refine thn_normal ?_
                                            refine W_ret ?_
                                            refine inBlk_ret ?_
                                            refine thn_ret ?_
                                            refine bodyQ_ret1 Hvac.results243 rfl (.int _ _) rfl ?_
                                            first
                                            | (exfalso; omega)
                                            | (refine ⟨(by repeat (first | assumption | exact Ext.refl _ | refine Ext.alloc ?_ _ | refine Ext.drew ?_ | refine Ext.setB ?_ (by first | omega | (simp only [size_alloc, size_setB, size_drew]; omega)) _ | refine Ext.trans ?_ (by assumption))), ?_, ?_⟩
                                               · congr 1
                                                 unfold dynW
                                                 first
                                                 | (simp only [*]; simp; done)
                                                 | (simp only [*]; simp; omega)
                                                 | (simp_all; done)
                                                 | (simp_all; omega)
                                                 | (repeat (first | rw [if_pos (by omega)] | rw [if_neg (by omega)]))
                                               · unfold dynW
                                                 repeat (first | omega | split))
                                          · have hb92p := hb92.h; try simp only [al_ete, al_dfn, Bool.not_eq_true', Bool.not_eq_false', al_ne, Bool.not_not, al_nn] at hb92p
                                            refine W_seq ?_
                                            refine W_region rfl ?_
                                            refine WO_p (PS_eql rfl rfl) ?_
                                            refine WO_p (PS_assign_bool rfl) ?_
                                            refine WO_nil ?_
                                            refine thn_normal ?_
                                            refine W_if rfl (fun hb96 => ?_) (fun hb96 => ?_)
                                            · have hb96p := hb96.h; try simp only [al_ete, al_dfn, Bool.not_eq_true', Bool.not_eq_false', al_ne, Bool.not_not, al_nn] at hb96p
                                              refine W_seq ?_
                                              refine W_region rfl ?_
                                              refine WO_p (PS_move_ptr rfl) ?_
                                              refine WO_p (PS_move_ptr rfl) ?_
                                              refine WO_call Hvac.call336 (by rfl) (Ret.mono (destroyCost_ex C c v B m t f _ (MS.ext hM (by repeat (first | assumption | exact Ext.refl _ | refine Ext.alloc ?_ _ | refine Ext.drew ?_ | refine Ext.setB ?_ (by first | omega | (simp only [size_alloc, size_setB, size_drew]; omega)) _ | exact Ext.trans (by assumption) (by assumption) | refine Ext.trans ?_ (by assumption)))) hA) ?_)
                                              rintro _ w336_96 ⟨hE336_96, rfl, hxb336_96⟩
                                              have hz336_96 := hE336_96.1
                                              try simp only [size_alloc, size_setB, size_drew] at hz336_96
                                              refine WO_p (PS_assign_int rfl) ?_
                                              refine WO_nil ?_
                                              refine thn_normal ?_
                                              refine W_ret ?_
                                              refine inBlk_ret ?_
                                              refine thn_ret ?_
                                              refine bodyQ_ret1 Hvac.results243 rfl (.int _ _) rfl ?_
                                              first
                                              | (exfalso; omega)
                                              | (refine ⟨(by repeat (first | assumption | exact Ext.refl _ | refine Ext.alloc ?_ _ | refine Ext.drew ?_ | refine Ext.setB ?_ (by first | omega | (simp only [size_alloc, size_setB, size_drew]; omega)) _ | refine Ext.trans ?_ (by assumption))), ?_, ?_⟩
                                                 · congr 1
                                                   unfold dynW
                                                   first
                                                   | (simp only [*]; simp; done)
                                                   | (simp only [*]; simp; omega)
                                                   | (simp_all; done)
                                                   | (simp_all; omega)
                                                   | (repeat (first | rw [if_pos (by omega)] | rw [if_neg (by omega)]))
                                                 · unfold dynW
                                                   repeat (first | omega | split))
                                            · have hb96p := hb96.h; try simp only [al_ete, al_dfn, Bool.not_eq_true', Bool.not_eq_false', al_ne, Bool.not_not, al_nn] at hb96p
                                              refine W_seq ?_
                                              refine W_seq ?_
                                              refine W_region rfl ?_
                                              refine WO_p (PS_eql rfl rfl) ?_
                                              refine WO_p (PS_assign_bool rfl) ?_
                                              refine WO_nil ?_
                                              refine thn_normal ?_
                                              refine W_if rfl (fun hb99 => ?_) (fun hb99 => ?_)
                                              · have hb99p := hb99.h; try simp only [al_ete, al_dfn, Bool.not_eq_true', Bool.not_eq_false', al_ne, Bool.not_not, al_nn] at hb99p
                                                refine W_skip ?_
                                                refine thn_normal ?_
                                                refine W_condT rfl hb99.h ?_
                                                refine W_seq ?_
                                                refine W_region rfl ?_
                                                refine WO_p (PS_move_ptr rfl) ?_
                                                refine WO_p (PS_move_ptr rfl) ?_
                                                refine WO_p (PS_move_ptr rfl) ?_
                                                refine WO_call Hvac.call239 (by rfl) (Ret.mono (arg_spec C c v B m t f _ _ (MS.ext hM (by repeat (first | assumption | exact Ext.refl _ | refine Ext.alloc ?_ _ | refine Ext.drew ?_ | refine Ext.setB ?_ (by first | omega | (simp only [size_alloc, size_setB, size_drew]; omega)) _ | exact Ext.trans (by assumption) (by assumption) | refine Ext.trans ?_ (by assumption)))) hA (by omega)) ?_)
                                                rintro _ w239_99 ⟨hE239_99, rfl⟩
                                                have hz239_99 := hE239_99.1
                                                try simp only [size_alloc, size_setB, size_drew] at hz239_99
                                                refine WO_call Hvac.call334 (by rfl) (Ret.mono (access_spec C c v B m _ _ (MS.ext hM (by repeat (first | assumption | exact Ext.refl _ | refine Ext.alloc ?_ _ | refine Ext.drew ?_ | refine Ext.setB ?_ (by first | omega | (simp only [size_alloc, size_setB, size_drew]; omega)) _ | exact Ext.trans (by assumption) (by assumption) | refine Ext.trans ?_ (by assumption)))) (argW_wd hM.ty _ _)) ?_)
                                                rintro _ w334_100 ⟨hE334_100, rfl⟩
                                                have hz334_100 := hE334_100.1
                                                try simp only [size_alloc, size_setB, size_drew] at hz334_100
                                                refine WO_p (PS_assign_int rfl) ?_
                                                refine WO_nil ?_
                                                refine thn_normal ?_
                                                refine W_seq ?_
                                                refine W_seq ?_
                                                refine W_region rfl ?_
                                                refine WO_p (PS_move_ptr rfl) ?_
                                                refine WO_p (PS_move_ptr rfl) ?_
                                                refine WO_call Hvac.call239 (by rfl) (Ret.mono (arg_spec C c v B m t f _ _ (MS.ext hM (by repeat (first | assumption | exact Ext.refl _ | refine Ext.alloc ?_ _ | refine Ext.drew ?_ | refine Ext.setB ?_ (by first | omega | (simp only [size_alloc, size_setB, size_drew]; omega)) _ | exact Ext.trans (by assumption) (by assumption) | refine Ext.trans ?_ (by assumption)))) hA (by omega)) ?_)
                                                rintro _ w239_101 ⟨hE239_101, rfl⟩
                                                have hz239_101 := hE239_101.1
                                                try simp only [size_alloc, size_setB, size_drew] at hz239_101
                                                refine WO_allocG Hvac.zeroValue61 ?_
                                                intro b11 v11 hg11 hE11 hH11 hl11
                                                try simp only [size_alloc, size_setB, size_drew] at hg11
                                                have hzz11 := hE11.1
                                                try simp only [size_alloc, size_setB, size_drew] at hzz11
                                                first | refine WO_storeW Hvac.sizeOf61 rfl (v := .agg _) rfl (Hb.h (by repeat (first | assumption | exact Hb.newY _ _ | refine Hb.alloc ?_ | refine Hb.drew ?_ | refine Hb.ext (by assumption) ?_ | exact Hb.setSameL (by first | omega | (simp only [size_alloc, size_setB, size_drew]; omega)) | exact Hb.setSame (by assumption) | refine Hb.set (by first | omega | (simp only [size_alloc, size_setB, size_drew]; omega)) ?_ ))) rfl (by first | omega | assumption | rfl | decide | exact Nat.le_refl _ | (simp only [size_ic, Value.cells]; omega) | (simp; omega) | simp) (by first | omega | assumption | rfl | decide | exact Nat.le_refl _ | (simp only [size_ic, Value.cells]; omega) | (simp; omega) | simp) (by first | exact oneCell_ic | assumption | exact one_Ws2 _ | exact one_YA2 _ | exact one_YSl2 _ | exact one_YM2 _ | exact one_YT2 _ | exact one_L2 _) ?_ | refine WO_store Hvac.sizeOf61 rfl (v := .agg _) rfl (Hb.h (by repeat (first | assumption | exact Hb.newY _ _ | refine Hb.alloc ?_ | refine Hb.drew ?_ | refine Hb.ext (by assumption) ?_ | exact Hb.setSameL (by first | omega | (simp only [size_alloc, size_setB, size_drew]; omega)) | exact Hb.setSame (by assumption) | refine Hb.set (by first | omega | (simp only [size_alloc, size_setB, size_drew]; omega)) ?_ ))) (by first | omega | assumption | rfl | decide | exact Nat.le_refl _ | (simp only [size_ic, Value.cells]; omega) | (simp; omega) | simp) (by first | omega | assumption | rfl | decide | exact Nat.le_refl _ | (simp only [size_ic, Value.cells]; omega) | (simp; omega) | simp) (by first | exact oneCell_ic | assumption | exact one_Ws2 _ | exact one_YA2 _ | exact one_YSl2 _ | exact one_YM2 _ | exact one_YT2 _ | exact one_L2 _) ?_
                                                refine WO_nil ?_
                                                refine thn_normal ?_
                                                refine W_seq ?_
                                                refine W_region rfl ?_
                                                refine WO_loadA _ Hvac.isAgg61 Hvac.sizeOf61 rfl (Hb.h (by repeat (first | assumption | exact Hb.newY _ _ | refine Hb.alloc ?_ | refine Hb.drew ?_ | refine Hb.ext (by assumption) ?_ | exact Hb.setSameL (by first | omega | (simp only [size_alloc, size_setB, size_drew]; omega)) | exact Hb.setSame (by assumption) | refine Hb.set (by first | omega | (simp only [size_alloc, size_setB, size_drew]; omega)) ?_ ))) (by first | omega | assumption | rfl | decide | exact Nat.le_refl _ | (simp only [size_ic, Value.cells]; omega) | (simp; omega) | simp) (Xt.h (by first | assumption | exact Xt.whole rfl rfl | exact Xt.whole rfl (by assumption) | exact Xt.whole rfl (by simp only [size_ic, Value.cells]; omega) | exact ⟨rfl⟩)) ?_
                                                refine WO_call Hvac.call223 (by rfl) (Ret.mono (isz_spec _ _ (by first | assumption | exact argW_wd hM.ty _ _ | exact Wd0)) ?_)
                                                rintro _ w223_102 ⟨rfl, hE223_102⟩
                                                have hz223_102 := hE223_102.1
                                                try simp only [size_alloc, size_setB, size_drew] at hz223_102
                                                refine WO_p (PS_not rfl) ?_
                                                refine WO_nil ?_
                                                refine thn_normal ?_
                                                refine W_if rfl (fun hb106 => ?_) (fun hb106 => ?_)
                                                · have hb106p := hb106.h; try simp only [al_ete, al_dfn, Bool.not_eq_true', Bool.not_eq_false', al_ne, Bool.not_not, al_nn] at hb106p
                                                  refine W_seq ?_
                                                  refine W_region rfl ?_
                                                  refine WO_p (PS_move_int rfl) ?_
                                                  refine WO_p (PS_add_u64n rfl rfl (by omega) (by omega)) ?_
                                                  refine WO_p (PS_assign_int rfl) ?_
                                                  refine WO_nil ?_
                                                  refine thn_normal ?_
                                                  refine W_seq ?_
                                                  refine W_drawE [false, false, false, false, false, false, false, false, false, true, true, false, false] hmix (by kernel_rfl) rfl ?_
                                                  refine WH_p (PS_move_int rfl) rfl ?_
                                                  refine WH_p (PS_eql rfl rfl) rfl ?_
                                                  refine WH_p (PS_move_bool rfl) rfl ?_
                                                  refine WH_if (t := 142) rfl (fun hb108 => ?_) (fun hb108 => ?_)
                                                  · have hb108p := hb108.h; try simp only [al_ete, al_dfn, Bool.not_eq_true', Bool.not_eq_false', al_ne, Bool.not_not, al_nn] at hb108p
                                                    refine WH_guardT rfl rfl hb108.h ?_
                                                    refine WH_p (PS_move_ptr rfl) rfl ?_
                                                    refine WH_guardT rfl rfl hb108.h ?_
                                                    refine WH_p (PS_nilCheck rfl) rfl ?_
                                                    refine WH_guardT rfl rfl hb108.h ?_
                                                    refine WH_p (PS_fieldAddr 0 Hvac.runUnderlying70 rfl Hvac.sizeOf55 rfl rfl) rfl ?_
                                                    refine WH_guardT rfl rfl hb108.h ?_
                                                    refine WH_load (.pointer _) Hvac.isAgg55 rfl (Hb.h (by repeat (first | assumption | exact Hb.newY _ _ | refine Hb.alloc ?_ | refine Hb.drew ?_ | refine Hb.ext (by assumption) ?_ | exact Hb.setSameL (by first | omega | (simp only [size_alloc, size_setB, size_drew]; omega)) | exact Hb.setSame (by assumption) | refine Hb.set (by first | omega | (simp only [size_alloc, size_setB, size_drew]; omega)) ?_ ))) (Ce.h (by first | assumption | exact ⟨rfl⟩)) ?_
                                                    refine WH_guardT rfl rfl hb108.h ?_
                                                    refine WH_p (PS_move_ptr rfl) rfl ?_
                                                    refine WH_guardT rfl rfl hb108.h ?_
                                                    refine WH_p (PS_move_ptr rfl) rfl ?_
                                                    refine WH_guardT rfl rfl hb108.h ?_
                                                    refine WH_call Hvac.call239 (by rfl) (Ret.mono (arg_spec C c v B m t f _ _ (MS.ext hM (by repeat (first | assumption | exact Ext.refl _ | refine Ext.alloc ?_ _ | refine Ext.drew ?_ | refine Ext.setB ?_ (by first | omega | (simp only [size_alloc, size_setB, size_drew]; omega)) _ | exact Ext.trans (by assumption) (by assumption) | refine Ext.trans ?_ (by assumption)))) hA (by omega)) ?_)
                                                    rintro _ w239_108 ⟨hE239_108, rfl⟩
                                                    refine ⟨fun _ => (by repeat (first | assumption | exact Ext.refl _ | refine Ext.alloc ?_ _ | refine Ext.drew ?_ | refine Ext.setB ?_ (by first | omega | (simp only [size_alloc, size_setB, size_drew]; omega)) _ | exact Ext.trans (by assumption) (by assumption) | refine Ext.trans ?_ (by assumption))), ?_⟩
                                                    have hz239_108 := hE239_108.1
                                                    try simp only [size_alloc, size_setB, size_drew] at hz239_108
                                                    refine WH_guardT rfl rfl hb108.h ?_
                                                    refine WH_call Hvac.call267 (by rfl) (Ret.mono (addrOf_spec _ _ (by first | assumption | exact argW_wd hM.ty _ _ | exact Wd0)) ?_)
                                                    rintro _ w267_109 ⟨hE267_109, rfl⟩
                                                    refine ⟨fun _ => (by repeat (first | assumption | exact Ext.refl _ | refine Ext.alloc ?_ _ | refine Ext.drew ?_ | refine Ext.setB ?_ (by first | omega | (simp only [size_alloc, size_setB, size_drew]; omega)) _ | exact Ext.trans (by assumption) (by assumption) | refine Ext.trans ?_ (by assumption))), ?_⟩
                                                    have hz267_109 := hE267_109.1
                                                    try simp only [size_alloc, size_setB, size_drew] at hz267_109
                                                    refine WH_guardT rfl rfl hb108.h ?_
                                                    refine WH_call Hvac.call269 (by rfl) (Ret.mono (isEmpty_ex C c v B (bb m) _ _ (VS.ext hM.vs (by repeat (first | assumption | exact Ext.refl _ | refine Ext.alloc ?_ _ | refine Ext.drew ?_ | refine Ext.setB ?_ (by first | omega | (simp only [size_alloc, size_setB, size_drew]; omega)) _ | exact Ext.trans (by assumption) (by assumption) | refine Ext.trans ?_ (by assumption)))) (by first | assumption | exact addrW_by _)) ?_)
                                                    rintro _ w269_110 ⟨hE269_110, rfl⟩
                                                    refine ⟨(fun h => by cases h), ?_⟩
                                                    have hz269_110 := hE269_110.1
                                                    try simp only [size_alloc, size_setB, size_drew] at hz269_110
                                                    refine WH_p (PS_pickT rfl hb108.h rfl) rfl ?_
                                                    refine WH_nil ?_
                                                    refine thn_normal ?_
                                                    refine W_if rfl (fun hb112 => ?_) (fun hb112 => ?_)
                                                    · have hb112p := hb112.h; try simp only [al_ete, al_dfn, Bool.not_eq_true', Bool.not_eq_false', al_ne, Bool.not_not, al_nn] at hb112p
                                                      refine W_region rfl ?_
                                                      refine WO_p (PS_move_int rfl) ?_
                                                      refine WO_p (PS_add_u64n rfl rfl (by omega) (by omega)) ?_
                                                      refine WO_p (PS_assign_int rfl) ?_
                                                      refine WO_nil ?_
                                                      refine thn_normal ?_
                                                      refine W_seq ?_
                                                      refine W_region rfl ?_
                                                      refine WO_p (PS_move_int rfl) ?_
                                                      refine WO_p (PS_assign_int rfl) ?_
                                                      refine WO_nil ?_
                                                      refine thn_normal ?_
                                                      refine W_ret ?_
                                                      refine inBlk_ret ?_
                                                      refine thn_ret ?_
                                                      refine bodyQ_ret1 Hvac.results243 rfl (.int _ _) rfl ?_
                                                      first
                                                      | (exfalso; omega)
                                                      | (refine ⟨(by repeat (first | assumption | exact Ext.refl _ | refine Ext.alloc ?_ _ | refine Ext.drew ?_ | refine Ext.setB ?_ (by first | omega | (simp only [size_alloc, size_setB, size_drew]; omega)) _ | refine Ext.trans ?_ (by assumption))), ?_, ?_⟩
                                                         · congr 1
                                                           unfold dynW
                                                           first
                                                           | (simp only [*]; simp; done)
                                                           | (simp only [*]; simp; omega)
                                                           | (simp_all; done)
                                                           | (simp_all; omega)
                                                           | (repeat (first | rw [if_pos (by omega)] | rw [if_neg (by omega)]))
                                                         · unfold dynW
                                                           repeat (first | omega | split))
                                                    · have hb112p := hb112.h; try simp only [al_ete, al_dfn, Bool.not_eq_true', Bool.not_eq_false', al_ne, Bool.not_not, al_nn] at hb112p
                                                      refine W_skip ?_
                                                      refine thn_normal ?_
                                                      refine W_seq ?_
                                                      refine W_region rfl ?_
                                                      refine WO_p (PS_move_int rfl) ?_
                                                      refine WO_p (PS_assign_int rfl) ?_
                                                      refine WO_nil ?_
                                                      refine thn_normal ?_
                                                      refine W_ret ?_
                                                      refine inBlk_ret ?_
                                                      refine thn_ret ?_
                                                      refine bodyQ_ret1 Hvac.results243 rfl (.int _ _) rfl ?_
                                                      first
                                                      | (exfalso; omega)
                                                      | (refine ⟨(by repeat (first | assumption | exact Ext.refl _ | refine Ext.alloc ?_ _ | refine Ext.drew ?_ | refine Ext.setB ?_ (by first | omega | (simp only [size_alloc, size_setB, size_drew]; omega)) _ | refine Ext.trans ?_ (by assumption))), ?_, ?_⟩
                                                         · congr 1
                                                           unfold dynW
                                                           first
                                                           | (simp only [*]; simp; done)
                                                           | (simp only [*]; simp; omega)
                                                           | (simp_all; done)
                                                           | (simp_all; omega)
                                                           | (repeat (first | rw [if_pos (by omega)] | rw [if_neg (by omega)]))
                                                         · unfold dynW
                                                           repeat (first | omega | split))
                                                  · have hb108p := hb108.h; try simp only [al_ete, al_dfn, Bool.not_eq_true', Bool.not_eq_false', al_ne, Bool.not_not, al_nn] at hb108p
                                                    refine WH_guardF rfl rfl hb108.h ?_
                                                    refine WH_guardF rfl rfl hb108.h ?_
                                                    refine WH_guardF rfl rfl hb108.h ?_
                                                    refine WH_guardF rfl rfl hb108.h ?_
                                                    refine WH_guardF rfl rfl hb108.h ?_
                                                    refine WH_guardF rfl rfl hb108.h ?_
                                                    refine WH_guardF rfl rfl hb108.h ?_
                                                    refine WH_guardF rfl rfl hb108.h ?_
                                                    refine WH_guardF rfl rfl hb108.h ?_
                                                    refine WH_p (PS_pickF rfl hb108.h rfl) rfl ?_
                                                    refine WH_nil ?_
                                                    refine thn_normal ?_
                                                    refine W_condF rfl rfl ?_
                                                    refine W_skip ?_
                                                    refine thn_normal ?_
                                                    refine W_seq ?_
                                                    refine W_region rfl ?_
                                                    refine WO_p (PS_move_int rfl) ?_
                                                    refine WO_p (PS_assign_int rfl) ?_
                                                    refine WO_nil ?_
                                                    refine thn_normal ?_
                                                    refine W_ret ?_
                                                    refine inBlk_ret ?_
                                                    refine thn_ret ?_
                                                    refine bodyQ_ret1 Hvac.results243 rfl (.int _ _) rfl ?_
                                                    first
                                                    | (exfalso; omega)
                                                    | (refine ⟨(by repeat (first | assumption | exact Ext.refl _ | refine Ext.alloc ?_ _ | refine Ext.drew ?_ | refine Ext.setB ?_ (by first | omega | (simp only [size_alloc, size_setB, size_drew]; omega)) _ | refine Ext.trans ?_ (by assumption))), ?_, ?_⟩
                                                       · congr 1
                                                         unfold dynW
                                                         first
                                                         | (simp only [*]; simp; done)
                                                         | (simp only [*]; simp; omega)
                                                         | (simp_all; done)
                                                         | (simp_all; omega)
                                                         | (repeat (first | rw [if_pos (by omega)] | rw [if_neg (by omega)]))
                                                       · unfold dynW
                                                         repeat (first | omega | split))
                                                · have hb106p := hb106.h; try simp only [al_ete, al_dfn, Bool.not_eq_true', Bool.not_eq_false', al_ne, Bool.not_not, al_nn] at hb106p
                                                  refine W_skip ?_
                                                  refine thn_normal ?_
                                                  refine W_seq ?_
                                                  refine W_region rfl ?_
                                                  refine WO_p (PS_move_int rfl) ?_
                                                  refine WO_p (PS_assign_int rfl) ?_
                                                  refine WO_nil ?_
                                                  refine thn_normal ?_
                                                  refine W_ret ?_
                                                  refine inBlk_ret ?_
                                                  refine thn_ret ?_
                                                  refine bodyQ_ret1 Hvac.results243 rfl (.int _ _) rfl ?_
                                                  first
                                                  | (exfalso; omega)
                                                  | (refine ⟨(by repeat (first | assumption | exact Ext.refl _ | refine Ext.alloc ?_ _ | refine Ext.drew ?_ | refine Ext.setB ?_ (by first | omega | (simp only [size_alloc, size_setB, size_drew]; omega)) _ | refine Ext.trans ?_ (by assumption))), ?_, ?_⟩
                                                     · congr 1
                                                       unfold dynW
                                                       first
                                                       | (simp only [*]; simp; done)
                                                       | (simp only [*]; simp; omega)
                                                       | (simp_all; done)
                                                       | (simp_all; omega)
                                                       | (repeat (first | rw [if_pos (by omega)] | rw [if_neg (by omega)]))
                                                     · unfold dynW
                                                       repeat (first | omega | split))
                                              · have hb99p := hb99.h; try simp only [al_ete, al_dfn, Bool.not_eq_true', Bool.not_eq_false', al_ne, Bool.not_not, al_nn] at hb99p
                                                refine W_region rfl ?_
                                                refine WO_p (PS_eql rfl rfl) ?_
                                                refine WO_p (PS_assign_bool rfl) ?_
                                                refine WO_nil ?_
                                                refine thn_normal ?_
                                                refine W_if rfl (fun hb114 => ?_) (fun hb114 => ?_)
                                                · have hb114p := hb114.h; try simp only [al_ete, al_dfn, Bool.not_eq_true', Bool.not_eq_false', al_ne, Bool.not_not, al_nn] at hb114p
                                                  refine W_seq ?_
                                                  refine W_region rfl ?_
                                                  refine WO_p (PS_move_ptr rfl) ?_
                                                  refine WO_p (PS_move_ptr rfl) ?_
                                                  refine WO_p (PS_move_ptr rfl) ?_
                                                  refine WO_call Hvac.call239 (by rfl) (Ret.mono (arg_spec C c v B m t f _ _ (MS.ext hM (by repeat (first | assumption | exact Ext.refl _ | refine Ext.alloc ?_ _ | refine Ext.drew ?_ | refine Ext.setB ?_ (by first | omega | (simp only [size_alloc, size_setB, size_drew]; omega)) _ | exact Ext.trans (by assumption) (by assumption) | refine Ext.trans ?_ (by assumption)))) hA (by omega)) ?_)
                                                  rintro _ w239_114 ⟨hE239_114, rfl⟩
                                                  have hz239_114 := hE239_114.1
                                                  try simp only [size_alloc, size_setB, size_drew] at hz239_114
                                                  refine WO_call Hvac.call334 (by rfl) (Ret.mono (access_spec C c v B m _ _ (MS.ext hM (by repeat (first | assumption | exact Ext.refl _ | refine Ext.alloc ?_ _ | refine Ext.drew ?_ | refine Ext.setB ?_ (by first | omega | (simp only [size_alloc, size_setB, size_drew]; omega)) _ | exact Ext.trans (by assumption) (by assumption) | refine Ext.trans ?_ (by assumption)))) (argW_wd hM.ty _ _)) ?_)
                                                  rintro _ w334_115 ⟨hE334_115, rfl⟩
                                                  have hz334_115 := hE334_115.1
                                                  try simp only [size_alloc, size_setB, size_drew] at hz334_115
                                                  refine WO_p (PS_assign_int rfl) ?_
                                                  refine WO_nil ?_
                                                  refine thn_normal ?_
                                                  refine W_seq ?_
                                                  refine W_seq ?_
                                                  refine W_region rfl ?_
                                                  refine WO_p (PS_move_ptr rfl) ?_
                                                  refine WO_p (PS_move_ptr rfl) ?_
                                                  refine WO_call Hvac.call239 (by rfl) (Ret.mono (arg_spec C c v B m t f _ _ (MS.ext hM (by repeat (first | assumption | exact Ext.refl _ | refine Ext.alloc ?_ _ | refine Ext.drew ?_ | refine Ext.setB ?_ (by first | omega | (simp only [size_alloc, size_setB, size_drew]; omega)) _ | exact Ext.trans (by assumption) (by assumption) | refine Ext.trans ?_ (by assumption)))) hA (by omega)) ?_)
                                                  rintro _ w239_116 ⟨hE239_116, rfl⟩
                                                  have hz239_116 := hE239_116.1
                                                  try simp only [size_alloc, size_setB, size_drew] at hz239_116
                                                  refine WO_allocG Hvac.zeroValue61 ?_
                                                  intro b11 v11 hg11 hE11 hH11 hl11
                                                  try simp only [size_alloc, size_setB, size_drew] at hg11
                                                  have hzz11 := hE11.1
                                                  try simp only [size_alloc, size_setB, size_drew] at hzz11
                                                  first | refine WO_storeW Hvac.sizeOf61 rfl (v := .agg _) rfl (Hb.h (by repeat (first | assumption | exact Hb.newY _ _ | refine Hb.alloc ?_ | refine Hb.drew ?_ | refine Hb.ext (by assumption) ?_ | exact Hb.setSameL (by first | omega | (simp only [size_alloc, size_setB, size_drew]; omega)) | exact Hb.setSame (by assumption) | refine Hb.set (by first | omega | (simp only [size_alloc, size_setB, size_drew]; omega)) ?_ ))) rfl (by first | omega | assumption | rfl | decide | exact Nat.le_refl _ | (simp only [size_ic, Value.cells]; omega) | (simp; omega) | simp) (by first | omega | assumption | rfl | decide | exact Nat.le_refl _ | (simp only [size_ic, Value.cells]; omega) | (simp; omega) | simp) (by first | exact oneCell_ic | assumption | exact one_Ws2 _ | exact one_YA2 _ | exact one_YSl2 _ | exact one_YM2 _ | exact one_YT2 _ | exact one_L2 _) ?_ | refine WO_store Hvac.sizeOf61 rfl (v := .agg _) rfl (Hb.h (by repeat (first | assumption | exact Hb.newY _ _ | refine Hb.alloc ?_ | refine Hb.drew ?_ | refine Hb.ext (by assumption) ?_ | exact Hb.setSameL (by first | omega | (simp only [size_alloc, size_setB, size_drew]; omega)) | exact Hb.setSame (by assumption) | refine Hb.set (by first | omega | (simp only [size_alloc, size_setB, size_drew]; omega)) ?_ ))) (by first | omega | assumption | rfl | decide | exact Nat.le_refl _ | (simp only [size_ic, Value.cells]; omega) | (simp; omega) | simp) (by first | omega | assumption | rfl | decide | exact Nat.le_refl _ | (simp only [size_ic, Value.cells]; omega) | (simp; omega) | simp) (by first | exact oneCell_ic | assumption | exact one_Ws2 _ | exact one_YA2 _ | exact one_YSl2 _ | exact one_YM2 _ | exact one_YT2 _ | exact one_L2 _) ?_
                                                  refine WO_nil ?_
                                                  refine thn_normal ?_
                                                  refine W_seq ?_
                                                  refine W_region rfl ?_
                                                  refine WO_loadA _ Hvac.isAgg61 Hvac.sizeOf61 rfl (Hb.h (by repeat (first | assumption | exact Hb.newY _ _ | refine Hb.alloc ?_ | refine Hb.drew ?_ | refine Hb.ext (by assumption) ?_ | exact Hb.setSameL (by first | omega | (simp only [size_alloc, size_setB, size_drew]; omega)) | exact Hb.setSame (by assumption) | refine Hb.set (by first | omega | (simp only [size_alloc, size_setB, size_drew]; omega)) ?_ ))) (by first | omega | assumption | rfl | decide | exact Nat.le_refl _ | (simp only [size_ic, Value.cells]; omega) | (simp; omega) | simp) (Xt.h (by first | assumption | exact Xt.whole rfl rfl | exact Xt.whole rfl (by assumption) | exact Xt.whole rfl (by simp only [size_ic, Value.cells]; omega) | exact ⟨rfl⟩)) ?_
                                                  refine WO_call Hvac.call223 (by rfl) (Ret.mono (isz_spec _ _ (by first | assumption | exact argW_wd hM.ty _ _ | exact Wd0)) ?_)
                                                  rintro _ w223_117 ⟨rfl, hE223_117⟩
                                                  have hz223_117 := hE223_117.1
                                                  try simp only [size_alloc, size_setB, size_drew] at hz223_117
                                                  refine WO_p (PS_not rfl) ?_
                                                  refine WO_nil ?_
                                                  refine thn_normal ?_
                                                  refine W_if rfl (fun hb121 => ?_) (fun hb121 => ?_)
                                                  · have hb121p := hb121.h; try simp only [al_ete, al_dfn, Bool.not_eq_true', Bool.not_eq_false', al_ne, Bool.not_not, al_nn] at hb121p
                                                    refine W_seq ?_
                                                    refine W_region rfl ?_
                                                    refine WO_p (PS_move_int rfl) ?_
                                                    refine WO_p (PS_add_u64n rfl rfl (by omega) (by omega)) ?_
                                                    refine WO_p (PS_assign_int rfl) ?_
                                                    refine WO_nil ?_
                                                    refine thn_normal ?_
                                                    refine W_seq ?_
                                                    refine W_drawE [false, false, false, false, false, false, false, false, false, true, true, false, false] hmix (by kernel_rfl) rfl ?_
                                                    refine WH_p (PS_move_int rfl) rfl ?_
                                                    refine WH_p (PS_eql rfl rfl) rfl ?_
                                                    refine WH_p (PS_move_bool rfl) rfl ?_
                                                    refine WH_if (t := 142) rfl (fun hb123 => ?_) (fun hb123 => ?_)
                                                    · have hb123p := hb123.h; try simp only [al_ete, al_dfn, Bool.not_eq_true', Bool.not_eq_false', al_ne, Bool.not_not, al_nn] at hb123p
                                                      refine WH_guardT rfl rfl hb123.h ?_
                                                      refine WH_p (PS_move_ptr rfl) rfl ?_
                                                      refine WH_guardT rfl rfl hb123.h ?_
                                                      refine WH_p (PS_nilCheck rfl) rfl ?_
                                                      refine WH_guardT rfl rfl hb123.h ?_
                                                      refine WH_p (PS_fieldAddr 0 Hvac.runUnderlying70 rfl Hvac.sizeOf55 rfl rfl) rfl ?_
                                                      refine WH_guardT rfl rfl hb123.h ?_
                                                      refine WH_load (.pointer _) Hvac.isAgg55 rfl (Hb.h (by repeat (first | assumption | exact Hb.newY _ _ | refine Hb.alloc ?_ | refine Hb.drew ?_ | refine Hb.ext (by assumption) ?_ | exact Hb.setSameL (by first | omega | (simp only [size_alloc, size_setB, size_drew]; omega)) | exact Hb.setSame (by assumption) | refine Hb.set (by first | omega | (simp only [size_alloc, size_setB, size_drew]; omega)) ?_ ))) (Ce.h (by first | assumption | exact ⟨rfl⟩)) ?_
                                                      refine WH_guardT rfl rfl hb123.h ?_
                                                      refine WH_p (PS_move_ptr rfl) rfl ?_
                                                      refine WH_guardT rfl rfl hb123.h ?_
                                                      refine WH_p (PS_move_ptr rfl) rfl ?_
                                                      refine WH_guardT rfl rfl hb123.h ?_
                                                      refine WH_call Hvac.call239 (by rfl) (Ret.mono (arg_spec C c v B m t f _ _ (MS.ext hM (by repeat (first | assumption | exact Ext.refl _ | refine Ext.alloc ?_ _ | refine Ext.drew ?_ | refine Ext.setB ?_ (by first | omega | (simp only [size_alloc, size_setB, size_drew]; omega)) _ | exact Ext.trans (by assumption) (by assumption) | refine Ext.trans ?_ (by assumption)))) hA (by omega)) ?_)
                                                      rintro _ w239_123 ⟨hE239_123, rfl⟩
                                                      refine ⟨fun _ => (by repeat (first | assumption | exact Ext.refl _ | refine Ext.alloc ?_ _ | refine Ext.drew ?_ | refine Ext.setB ?_ (by first | omega | (simp only [size_alloc, size_setB, size_drew]; omega)) _ | exact Ext.trans (by assumption) (by assumption) | refine Ext.trans ?_ (by assumption))), ?_⟩
                                                      have hz239_123 := hE239_123.1
                                                      try simp only [size_alloc, size_setB, size_drew] at hz239_123
                                                      refine WH_guardT rfl rfl hb123.h ?_
                                                      refine WH_call Hvac.call267 (by rfl) (Ret.mono (addrOf_spec _ _ (by first | assumption | exact argW_wd hM.ty _ _ | exact Wd0)) ?_)
                                                      rintro _ w267_124 ⟨hE267_124, rfl⟩
                                                      refine ⟨fun _ => (by repeat (first | assumption | exact Ext.refl _ | refine Ext.alloc ?_ _ | refine Ext.drew ?_ | refine Ext.setB ?_ (by first | omega | (simp only [size_alloc, size_setB, size_drew]; omega)) _ | exact Ext.trans (by assumption) (by assumption) | refine Ext.trans ?_ (by assumption))), ?_⟩
                                                      have hz267_124 := hE267_124.1
                                                      try simp only [size_alloc, size_setB, size_drew] at hz267_124
                                                      refine WH_guardT rfl rfl hb123.h ?_
                                                      refine WH_call Hvac.call269 (by rfl) (Ret.mono (isEmpty_ex C c v B (bb m) _ _ (VS.ext hM.vs (by repeat (first | assumption | exact Ext.refl _ | refine Ext.alloc ?_ _ | refine Ext.drew ?_ | refine Ext.setB ?_ (by first | omega | (simp only [size_alloc, size_setB, size_drew]; omega)) _ | exact Ext.trans (by assumption) (by assumption) | refine Ext.trans ?_ (by assumption)))) (by first | assumption | exact addrW_by _)) ?_)
                                                      rintro _ w269_125 ⟨hE269_125, rfl⟩
                                                      refine ⟨(fun h => by cases h), ?_⟩
                                                      have hz269_125 := hE269_125.1
                                                      try simp only [size_alloc, size_setB, size_drew] at hz269_125
                                                      refine WH_p (PS_pickT rfl hb123.h rfl) rfl ?_
                                                      refine WH_nil ?_
                                                      refine thn_normal ?_
                                                      refine W_if rfl (fun hb127 => ?_) (fun hb127 => ?_)
                                                      · have hb127p := hb127.h; try simp only [al_ete, al_dfn, Bool.not_eq_true', Bool.not_eq_false', al_ne, Bool.not_not, al_nn] at hb127p
                                                        refine W_region rfl ?_
                                                        refine WO_p (PS_move_int rfl) ?_
                                                        refine WO_p (PS_add_u64n rfl rfl (by omega) (by omega)) ?_
                                                        refine WO_p (PS_assign_int rfl) ?_
                                                        refine WO_nil ?_
                                                        refine thn_normal ?_
                                                        refine W_seq ?_
                                                        refine W_region rfl ?_
                                                        refine WO_p (PS_move_int rfl) ?_
                                                        refine WO_p (PS_assign_int rfl) ?_
                                                        refine WO_nil ?_
                                                        refine thn_normal ?_
                                                        refine W_ret ?_
                                                        refine inBlk_ret ?_
                                                        refine thn_ret ?_
                                                        refine bodyQ_ret1 Hvac.results243 rfl (.int _ _) rfl ?_
                                                        first
                                                        | (exfalso; omega)
                                                        | (refine ⟨(by repeat (first | assumption | exact Ext.refl _ | refine Ext.alloc ?_ _ | refine Ext.drew ?_ | refine Ext.setB ?_ (by first | omega | (simp only [size_alloc, size_setB, size_drew]; omega)) _ | refine Ext.trans ?_ (by assumption))), ?_, ?_⟩
                                                           · congr 1
                                                             unfold dynW
                                                             first
                                                             | (simp only [*]; simp; done)
                                                             | (simp only [*]; simp; omega)
                                                             | (simp_all; done)
                                                             | (simp_all; omega)
                                                             | (repeat (first | rw [if_pos (by omega)] | rw [if_neg (by omega)]))
                                                           · unfold dynW
                                                             repeat (first | omega | split))
                                                      · have hb127p := hb127.h; try simp only [al_ete, al_dfn, Bool.not_eq_true', Bool.not_eq_false', al_ne, Bool.not_not, al_nn] at hb127p
                                                        refine W_skip ?_
                                                        refine thn_normal ?_
                                                        refine W_seq ?_
                                                        refine W_region rfl ?_
                                                        refine WO_p (PS_move_int rfl) ?_
                                                        refine WO_p (PS_assign_int rfl) ?_
                                                        refine WO_nil ?_
                                                        refine thn_normal ?_
                                                        refine W_ret ?_
                                                        refine inBlk_ret ?_
                                                        refine thn_ret ?_
                                                        refine bodyQ_ret1 Hvac.results243 rfl (.int _ _) rfl ?_
                                                        first
                                                        | (exfalso; omega)
                                                        | (refine ⟨(by repeat (first | assumption | exact Ext.refl _ | refine Ext.alloc ?_ _ | refine Ext.drew ?_ | refine Ext.setB ?_ (by first | omega | (simp only [size_alloc, size_setB, size_drew]; omega)) _ | refine Ext.trans ?_ (by assumption))), ?_, ?_⟩
                                                           · congr 1
                                                             unfold dynW
                                                             first
                                                             | (simp only [*]; simp; done)
                                                             | (simp only [*]; simp; omega)
                                                             | (simp_all; done)
                                                             | (simp_all; omega)
                                                             | (repeat (first | rw [if_pos (by omega)] | rw [if_neg (by omega)]))
                                                           · unfold dynW
                                                             repeat (first | omega | split))
                                                    · have hb123p := hb123.h; try simp only [al_ete, al_dfn, Bool.not_eq_true', Bool.not_eq_false', al_ne, Bool.not_not, al_nn] at hb123p
                                                      refine WH_guardF rfl rfl hb123.h ?_
                                                      refine WH_guardF rfl rfl hb123.h ?_
                                                      refine WH_guardF rfl rfl hb123.h ?_
                                                      refine WH_guardF rfl rfl hb123.h ?_
                                                      refine WH_guardF rfl rfl hb123.h ?_
                                                      refine WH_guardF rfl rfl hb123.h ?_
                                                      refine WH_guardF rfl rfl hb123.h ?_
                                                      refine WH_guardF rfl rfl hb123.h ?_
                                                      refine WH_guardF rfl rfl hb123.h ?_
                                                      refine WH_p (PS_pickF rfl hb123.h rfl) rfl ?_
                                                      refine WH_nil ?_
                                                      refine thn_normal ?_
                                                      refine W_condF rfl rfl ?_
                                                      refine W_skip ?_
                                                      refine thn_normal ?_
                                                      refine W_seq ?_
                                                      refine W_region rfl ?_
                                                      refine WO_p (PS_move_int rfl) ?_
                                                      refine WO_p (PS_assign_int rfl) ?_
                                                      refine WO_nil ?_
                                                      refine thn_normal ?_
                                                      refine W_ret ?_
                                                      refine inBlk_ret ?_
                                                      refine thn_ret ?_
                                                      refine bodyQ_ret1 Hvac.results243 rfl (.int _ _) rfl ?_
                                                      first
                                                      | (exfalso; omega)
                                                      | (refine ⟨(by repeat (first | assumption | exact Ext.refl _ | refine Ext.alloc ?_ _ | refine Ext.drew ?_ | refine Ext.setB ?_ (by first | omega | (simp only [size_alloc, size_setB, size_drew]; omega)) _ | refine Ext.trans ?_ (by assumption))), ?_, ?_⟩
                                                         · congr 1
                                                           unfold dynW
                                                           first
                                                           | (simp only [*]; simp; done)
                                                           | (simp only [*]; simp; omega)
                                                           | (simp_all; done)
                                                           | (simp_all; omega)
                                                           | (repeat (first | rw [if_pos (by omega)] | rw [if_neg (by omega)]))
                                                         · unfold dynW
                                                           repeat (first | omega | split))
                                                  · have hb121p := hb121.h; try simp only [al_ete, al_dfn, Bool.not_eq_true', Bool.not_eq_false', al_ne, Bool.not_not, al_nn] at hb121p
                                                    refine W_skip ?_
                                                    refine thn_normal ?_
                                                    refine W_seq ?_
                                                    refine W_region rfl ?_
                                                    refine WO_p (PS_move_int rfl) ?_
                                                    refine WO_p (PS_assign_int rfl) ?_
                                                    refine WO_nil ?_
                                                    refine thn_normal ?_
                                                    refine W_ret ?_
                                                    refine inBlk_ret ?_
                                                    refine thn_ret ?_
                                                    refine bodyQ_ret1 Hvac.results243 rfl (.int _ _) rfl ?_
                                                    first
                                                    | (exfalso; omega)
                                                    | (refine ⟨(by repeat (first | assumption | exact Ext.refl _ | refine Ext.alloc ?_ _ | refine Ext.drew ?_ | refine Ext.setB ?_ (by first | omega | (simp only [size_alloc, size_setB, size_drew]; omega)) _ | refine Ext.trans ?_ (by assumption))), ?_, ?_⟩
                                                       · congr 1
                                                         unfold dynW
                                                         first
                                                         | (simp only [*]; simp; done)
                                                         | (simp only [*]; simp; omega)
                                                         | (simp_all; done)
                                                         | (simp_all; omega)
                                                         | (repeat (first | rw [if_pos (by omega)] | rw [if_neg (by omega)]))
                                                       · unfold dynW
                                                         repeat (first | omega | split))
                                                · have hb114p := hb114.h; try simp only [al_ete, al_dfn, Bool.not_eq_true', Bool.not_eq_false', al_ne, Bool.not_not, al_nn] at hb114p
                                                  refine W_skip ?_
                                                  refine inBlk_normal ?_
                                                  refine thn_normal ?_
                                                  refine W_seq ?_
                                                  refine W_region rfl ?_
                                                  refine WO_p (PS_assign_int rfl) ?_
                                                  refine WO_nil ?_
                                                  refine thn_normal ?_
                                                  refine W_ret ?_
                                                  refine bodyQ_ret1 Hvac.results243 rfl (.int _ _) rfl ?_
                                                  first
                                                  | (exfalso; omega)
                                                  | (refine ⟨(by repeat (first | assumption | exact Ext.refl _ | refine Ext.alloc ?_ _ | refine Ext.drew ?_ | refine Ext.setB ?_ (by first | omega | (simp only [size_alloc, size_setB, size_drew]; omega)) _ | refine Ext.trans ?_ (by assumption))), ?_, ?_⟩
                                                     · congr 1
                                                       unfold dynW
                                                       first
                                                       | (simp only [*]; simp; done)
                                                       | (simp only [*]; simp; omega)
                                                       | (simp_all; done)
                                                       | (simp_all; omega)
                                                       | (repeat (first | rw [if_pos (by omega)] | rw [if_neg (by omega)]))
                                                     · unfold dynW
                                                       repeat (first | omega | split))

end Go.Proofs.YgvacwGreat
