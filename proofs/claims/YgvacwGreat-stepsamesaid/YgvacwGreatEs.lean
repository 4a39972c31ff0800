import Derived.Test.YgvacwGreatEr
namespace Go.Proofs.YgvacwGreat
set_option linter.unusedSimpArgs false
set_option linter.unusedVariables false
theorem yeff_55 (y : PSt) (g : PF) (l : List Nat) : yeff y g 55 l = (y, ycopied g (l.getD 0 0) g.inputY (l.getD 1 0) (l.getD 2 0)) := by unfold yeff; rfl
theorem yeff_57 (y : PSt) (g : PF) (l : List Nat) : yeff y g 57 l = (y, ycopied g (l.getD 0 0) g.code (l.getD 1 0) (l.getD 2 0)) := by unfold yeff; rfl
theorem yeff_62 (y : PSt) (g : PF) (l : List Nat) : yeff y g 62 l = (y, ycopied g (l.getD 0 0) y.ret (l.getD 1 0) (l.getD 2 0)) := by unfold yeff; rfl
theorem yeff_94 (y : PSt) (g : PF) (l : List Nat) : yeff y g 94 l = (y, ycopied g (l.getD 0 0) g.mem (l.getD 1 0) (l.getD 2 0)) := by unfold yeff; rfl
theorem yeff_60 (y : PSt) (g : PF) (l : List Nat) : yeff y g 60 l = (ysWarmA y (ywith y.now.warmA (yaddr (l.getD 0 0))), ycopied g (l.getD 1 0) (yacct y.now.accts (yaddr (l.getD 0 0))).code (l.getD 2 0) (l.getD 3 0)) := by unfold yeff; rfl
theorem ycop0 {g : PF} {d a n : Nat} {s : List Int} (h : n = 0) : ycopied g d s a n = g := by unfold ycopied; rw [if_pos h]
theorem ycopN {g : PF} {d a n : Nat} {s : List Int} (h : n ≠ 0) : ycopied g d s a n = ywrite g d (ycut s a n) := by unfold ycopied; rw [if_neg h]
theorem copy_mid {L L' Ls : List Int} {p f q : Nat} (hl : L'.length = L.length) (hq : p + q ≤ L.length) (h : ∀ k, L'.getD k 0 = if p ≤ k ∧ k < p + q then Ls.getD (f + (k - p)) 0 else L.getD k 0) : L' = mid L p (ycut Ls f q) := by
  have hy : (ycut Ls f q).length = q := ycut_len _ _ _
  refine list_gd (by rw [hl, mid_len (by rw [hy]; exact hq)]) fun i hi => ?_
  rw [h, getD_mid (by rw [hy]; exact hq), hy]
  by_cases h1 : p ≤ i ∧ i < p + q
  · rw [if_pos h1, if_neg (by omega), if_pos (by omega), List.getD_eq_getElem?_getD (l := ycut Ls f q), ycut_get (by omega)]; rfl
  · rw [if_neg h1]
    by_cases h2 : i < p
    · rw [if_pos h2]
    · rw [if_neg h2, if_neg (by omega)]
theorem wn_nz {W : List Int} (hW : Wd W) (h : ¬ wv W = 0) : wn W ≠ 0 := by have := wn_int hW; omega
theorem wn_z {W : List Int} (hW : Wd W) (h : wv W = 0) : wn W = 0 := by have := wn_int hW; omega

theorem sc_kt {w w1 w2 : World} {s : SV} {L : List Int} (h : NewB w w1 s L) (hk : KT 5 w1 w2) : SC w2 .u8 1 s L := by
  refine ⟨by rw [h.len, Nat.mul_one], ?_⟩
  rcases h with ⟨rfl, rfl⟩ | ⟨_, b, rfl, h1, h2⟩
  · exact Or.inl ⟨rfl, rfl⟩
  · refine Or.inr ⟨b, 0, _, 5, _, rfl, hk _ _ _ h2, by rw [size_ic]; simp, ⟨?_⟩⟩
    simp [ic]
    exact List.take_of_length_le (by simp)

set_option maxRecDepth 10000 in
set_option maxHeartbeats 4000000 in
theorem opCopy_ex [Om] (scan : List Int → List Int) (C : Nat) (c : Array Value) (v : V) (B : VB) (m : Mc) (t : Nat) (f : Fm) (o c' S : Int) (w : World) (hM : MS w C c v B m) (hop : Mc.opc f = o) (hAd : Adm scan v m t f o (infoW o).2.2.1 c' S) (hk : (infoW o).1 ≤ f.sp ∧ f.sp - (infoW o).1 + (infoW o).2.1 ≤ 64) (hc : 0 < c') (y : PSt) (rest : List PF) (g : PF) (hRl : Rel w v m (y, rest ++ [g])) (ho : o = 55 ∨ o = 57 ∨ o = 62 ∨ o = 60 ∨ o = 94) : Ret Hvac.prog 181 #[.pointer (some ⟨C, 0, none⟩)] w fun _ w' => ∃ v' m', MRet w C B m w' v' m' ∧ OpP scan m t c' S v' m' ∧ Rel w' v' m' (yplain khash y rest g o) := by
  have hI := hAd.ri
  have hf := hAd.fr
  have hR := hI.run hf
  have hA := hR.fa
  have hblk := hM.vs.blk
  have hCl := hblk.lt
  have hcs := hM.sz
  have hc_s := hM.rep.s
  obtain ⟨ht7, hfty, hF⟩ := hM.openF hf
  have hFk := hI.fr t f (Nat.le_refl _) hf
  have hvi := hI.ti.vi
  have hcbl := (hM.code f (List.mem_of_getElem? hf)).1.len
  have hcb5 := hFk.cl
  have hcl : f.code.2.1 ≤ 100000 := by omega
  have hpct := hfty.pc
  have hspt := hfty.sp
  have hwdA := fun i => argW_wd hM.ty f i
  have hMI := hI.mi
  have hAr := fun i => hRl.arg hM hMI hf i
  have htl := hRl.len hMI
  have hy0 : yarg g 0 = wn (m.argW f 0) := hAr 0
  have hy1 : yarg g 1 = wn (m.argW f 1) := hAr 1
  have hy2 : yarg g 2 = wn (m.argW f 2) := hAr 2
  have hy3 : yarg g 3 = wn (m.argW f 3) := hAr 3
  have hy4 : yarg g 4 = wn (m.argW f 4) := hAr 4
  have hy5 : yarg g 5 = wn (m.argW f 5) := hAr 5
  have hy6 : yarg g 6 = wn (m.argW f 6) := hAr 6
  have hpcl : f.pc < (f.cb.length : Int) := opc_pc (by rw [hop]; omega)
  obtain ⟨lo, n, hlo, hhi, hszn, hlon, hn32⟩ := hI.mem hM.ty (i := t) (Nat.le_refl _)
  have hbl0 := hI.ti.bl
  have hT : MemT m t lo n := ⟨hI.mtY, by omega, hlo, hhi, hlon, by omega⟩
  have hbsI : BS w (bb m) f.inputY := (hM.code f (List.mem_of_getElem? hf)).2
  have hbsC : BS w (bb m) f.code := (hM.code f (List.mem_of_getElem? hf)).1.bs
  have hbsR := hM.ret
  have hil := hFk.il
  have hccc := hFk.cc
  have hrt := hI.ti.rt
  have hf_input := hF.inputY
  have hf_code := hF.code
  have hc_ret := hM.rep.ret
  have hw0 := wv_bd (hwdA 0)
  have hw1 := wv_bd (hwdA 1)
  have hw2 := wv_bd (hwdA 2)
  have hw3 := wv_bd (hwdA 3)
  have hl0 := (hwdA 0).1
  have hl1 := (hwdA 1).1
  have hl2 := (hwdA 2).1
  have hl3 := (hwdA 3).1
  
  have hMB := hI.mbs hM.ty hlo hszn hlon
  obtain ⟨Lm, hLm, hFP, hRP⟩ := hRl.top hMI hf
  have hLle := hLm.le
  have hmc := Rel.mem_cut hFP hMB
  have hBI := (hM.code f (List.mem_of_getElem? hf)).2.rd
  have hBC := (hM.code f (List.mem_of_getElem? hf)).1
  have hBR := hM.ret.rd
  have hBIl := hBI.len
  have hBCl := hBC.len
  have hBRl := hBR.len
  
  refine Ret_of_W Hvac.func181 rfl rfl ?_
  refine W_seq ?_
  refine W_region rfl ?_
  refine WO_p (PS_move_ptr rfl) ?_
  refine WO_call Hvac.call95 (by rfl) (Ret.mono (running_spec C c v B m t f _ (MS.ext hM (by repeat (first | assumption | exact Ext.refl _ | refine Ext.alloc ?_ _ | refine Ext.drew ?_ | refine Ext.setB ?_ (by first | omega | (simp only [size_alloc, size_setB, size_drew]; omega)) _ | exact Ext.trans (by assumption) (by assumption) | refine Ext.trans ?_ (by assumption)))) hR) ?_)
  rintro _ w95_0 ⟨hE95_0, rfl⟩
  have hz95_0 := hE95_0.1
  try simp only [size_alloc, size_setB, size_drew] at hz95_0
  refine WO_p (PS_assign_ptr rfl) ?_
  refine WO_nil ?_
  refine thn_normal ?_
  refine W_seq ?_
  refine W_seq ?_
  refine W_region rfl ?_
  refine WO_p (PS_move_ptr rfl) ?_
  refine WO_p (PS_eqlnil Hvac.underlying187 rfl) ?_
  refine WO_nil ?_
  refine thn_normal ?_
  refine W_if rfl (fun hb3 => ?_) (fun hb3 => ?_)
  · have hb3p := hb3.h; try simp only [al_ete, al_dfn, Bool.not_eq_true', Bool.not_eq_false', al_ne, Bool.not_not, al_nn] at hb3p
    simp at hb3p --END
  · have hb3p := hb3.h; try simp only [al_ete, al_dfn, Bool.not_eq_true', Bool.not_eq_false', al_ne, Bool.not_not, al_nn] at hb3p
    refine W_skip ?_
    refine thn_normal ?_
    refine W_seq ?_
    refine W_region rfl ?_
    refine WO_p (PS_move_ptr rfl) ?_
    refine WO_p (PS_move_ptr rfl) ?_
    refine WO_call Hvac.call239 (by rfl) (Ret.mono (arg_spec C c v B m t f _ _ (MS.ext hM (by repeat (first | assumption | exact Ext.refl _ | refine Ext.alloc ?_ _ | refine Ext.drew ?_ | refine Ext.setB ?_ (by first | omega | (simp only [size_alloc, size_setB, size_drew]; omega)) _ | exact Ext.trans (by assumption) (by assumption) | refine Ext.trans ?_ (by assumption)))) hA (by omega)) ?_)
    rintro _ w239_3 ⟨hE239_3, rfl⟩
    have hz239_3 := hE239_3.1
    try simp only [size_alloc, size_setB, size_drew] at hz239_3
    refine WO_allocG Hvac.zeroValue61 ?_
    intro b3 v3 hg3 hE3 hH3 hl3
    try simp only [size_alloc, size_setB, size_drew] at hg3
    have hzz3 := hE3.1
    try simp only [size_alloc, size_setB, size_drew] at hzz3
    first | refine WO_storeW Hvac.sizeOf61 rfl (v := .agg _) rfl (Hb.h (by repeat (first | assumption | exact Hb.newY _ _ | refine Hb.alloc ?_ | refine Hb.drew ?_ | refine Hb.ext (by assumption) ?_ | exact Hb.setSameL (by first | omega | (simp only [size_alloc, size_setB, size_drew]; omega)) | exact Hb.setSame (by assumption) | refine Hb.set (by first | omega | (simp only [size_alloc, size_setB, size_drew]; omega)) ?_ ))) rfl (by first | omega | assumption | rfl | decide | exact Nat.le_refl _ | (simp only [size_ic, Value.cells]; omega) | (simp; omega) | simp) (by first | omega | assumption | rfl | decide | exact Nat.le_refl _ | (simp only [size_ic, Value.cells]; omega) | (simp; omega) | simp) (by first | exact oneCell_ic | assumption | exact one_Ws2 _ | exact one_YA2 _ | exact one_YSl2 _ | exact one_YM2 _ | exact one_YT2 _ | exact one_L2 _) ?_ | refine WO_store Hvac.sizeOf61 rfl (v := .agg _) rfl (Hb.h (by repeat (first | assumption | exact Hb.newY _ _ | refine Hb.alloc ?_ | refine Hb.drew ?_ | refine Hb.ext (by assumption) ?_ | exact Hb.setSameL (by first | omega | (simp only [size_alloc, size_setB, size_drew]; omega)) | exact Hb.setSame (by assumption) | refine Hb.set (by first | omega | (simp only [size_alloc, size_setB, size_drew]; omega)) ?_ ))) (by first | omega | assumption | rfl | decide | exact Nat.le_refl _ | (simp only [size_ic, Value.cells]; omega) | (simp; omega) | simp) (by first | omega | assumption | rfl | decide | exact Nat.le_refl _ | (simp only [size_ic, Value.cells]; omega) | (simp; omega) | simp) (by first | exact oneCell_ic | assumption | exact one_Ws2 _ | exact one_YA2 _ | exact one_YSl2 _ | exact one_YM2 _ | exact one_YT2 _ | exact one_L2 _) ?_
    refine WO_nil ?_
    refine thn_normal ?_
    refine W_seq ?_
    refine W_region rfl ?_
    refine WO_p (PS_move_ptr rfl) ?_
    refine WO_p (PS_move_ptr rfl) ?_
    refine WO_call Hvac.call239 (by rfl) (Ret.mono (arg_spec C c v B m t f _ _ (MS.ext hM (by repeat (first | assumption | exact Ext.refl _ | refine Ext.alloc ?_ _ | refine Ext.drew ?_ | refine Ext.setB ?_ (by first | omega | (simp only [size_alloc, size_setB, size_drew]; omega)) _ | exact Ext.trans (by assumption) (by assumption) | refine Ext.trans ?_ (by assumption)))) hA (by omega)) ?_)
    rintro _ w239_4 ⟨hE239_4, rfl⟩
    have hz239_4 := hE239_4.1
    try simp only [size_alloc, size_setB, size_drew] at hz239_4
    refine WO_allocG Hvac.zeroValue61 ?_
    intro b4 v4 hg4 hE4 hH4 hl4
    try simp only [size_alloc, size_setB, size_drew] at hg4
    have hzz4 := hE4.1
    try simp only [size_alloc, size_setB, size_drew] at hzz4
    first | refine WO_storeW Hvac.sizeOf61 rfl (v := .agg _) rfl (Hb.h (by repeat (first | assumption | exact Hb.newY _ _ | refine Hb.alloc ?_ | refine Hb.drew ?_ | refine Hb.ext (by assumption) ?_ | exact Hb.setSameL (by first | omega | (simp only [size_alloc, size_setB, size_drew]; omega)) | exact Hb.setSame (by assumption) | refine Hb.set (by first | omega | (simp only [size_alloc, size_setB, size_drew]; omega)) ?_ ))) rfl (by first | omega | assumption | rfl | decide | exact Nat.le_refl _ | (simp only [size_ic, Value.cells]; omega) | (simp; omega) | simp) (by first | omega | assumption | rfl | decide | exact Nat.le_refl _ | (simp only [size_ic, Value.cells]; omega) | (simp; omega) | simp) (by first | exact oneCell_ic | assumption | exact one_Ws2 _ | exact one_YA2 _ | exact one_YSl2 _ | exact one_YM2 _ | exact one_YT2 _ | exact one_L2 _) ?_ | refine WO_store Hvac.sizeOf61 rfl (v := .agg _) rfl (Hb.h (by repeat (first | assumption | exact Hb.newY _ _ | refine Hb.alloc ?_ | refine Hb.drew ?_ | refine Hb.ext (by assumption) ?_ | exact Hb.setSameL (by first | omega | (simp only [size_alloc, size_setB, size_drew]; omega)) | exact Hb.setSame (by assumption) | refine Hb.set (by first | omega | (simp only [size_alloc, size_setB, size_drew]; omega)) ?_ ))) (by first | omega | assumption | rfl | decide | exact Nat.le_refl _ | (simp only [size_ic, Value.cells]; omega) | (simp; omega) | simp) (by first | omega | assumption | rfl | decide | exact Nat.le_refl _ | (simp only [size_ic, Value.cells]; omega) | (simp; omega) | simp) (by first | exact oneCell_ic | assumption | exact one_Ws2 _ | exact one_YA2 _ | exact one_YSl2 _ | exact one_YM2 _ | exact one_YT2 _ | exact one_L2 _) ?_
    refine WO_nil ?_
    refine thn_normal ?_
    refine W_seq ?_
    refine W_region rfl ?_
    refine WO_p (PS_move_ptr rfl) ?_
    refine WO_p (PS_move_ptr rfl) ?_
    refine WO_call Hvac.call239 (by rfl) (Ret.mono (arg_spec C c v B m t f _ _ (MS.ext hM (by repeat (first | assumption | exact Ext.refl _ | refine Ext.alloc ?_ _ | refine Ext.drew ?_ | refine Ext.setB ?_ (by first | omega | (simp only [size_alloc, size_setB, size_drew]; omega)) _ | exact Ext.trans (by assumption) (by assumption) | refine Ext.trans ?_ (by assumption)))) hA (by omega)) ?_)
    rintro _ w239_5 ⟨hE239_5, rfl⟩
    have hz239_5 := hE239_5.1
    try simp only [size_alloc, size_setB, size_drew] at hz239_5
    refine WO_allocG Hvac.zeroValue61 ?_
    intro b5 v5 hg5 hE5 hH5 hl5
    try simp only [size_alloc, size_setB, size_drew] at hg5
    have hzz5 := hE5.1
    try simp only [size_alloc, size_setB, size_drew] at hzz5
    first | refine WO_storeW Hvac.sizeOf61 rfl (v := .agg _) rfl (Hb.h (by repeat (first | assumption | exact Hb.newY _ _ | refine Hb.alloc ?_ | refine Hb.drew ?_ | refine Hb.ext (by assumption) ?_ | exact Hb.setSameL (by first | omega | (simp only [size_alloc, size_setB, size_drew]; omega)) | exact Hb.setSame (by assumption) | refine Hb.set (by first | omega | (simp only [size_alloc, size_setB, size_drew]; omega)) ?_ ))) rfl (by first | omega | assumption | rfl | decide | exact Nat.le_refl _ | (simp only [size_ic, Value.cells]; omega) | (simp; omega) | simp) (by first | omega | assumption | rfl | decide | exact Nat.le_refl _ | (simp only [size_ic, Value.cells]; omega) | (simp; omega) | simp) (by first | exact oneCell_ic | assumption | exact one_Ws2 _ | exact one_YA2 _ | exact one_YSl2 _ | exact one_YM2 _ | exact one_YT2 _ | exact one_L2 _) ?_ | refine WO_store Hvac.sizeOf61 rfl (v := .agg _) rfl (Hb.h (by repeat (first | assumption | exact Hb.newY _ _ | refine Hb.alloc ?_ | refine Hb.drew ?_ | refine Hb.ext (by assumption) ?_ | exact Hb.setSameL (by first | omega | (simp only [size_alloc, size_setB, size_drew]; omega)) | exact Hb.setSame (by assumption) | refine Hb.set (by first | omega | (simp only [size_alloc, size_setB, size_drew]; omega)) ?_ ))) (by first | omega | assumption | rfl | decide | exact Nat.le_refl _ | (simp only [size_ic, Value.cells]; omega) | (simp; omega) | simp) (by first | omega | assumption | rfl | decide | exact Nat.le_refl _ | (simp only [size_ic, Value.cells]; omega) | (simp; omega) | simp) (by first | exact oneCell_ic | assumption | exact one_Ws2 _ | exact one_YA2 _ | exact one_YSl2 _ | exact one_YM2 _ | exact one_YT2 _ | exact one_L2 _) ?_
    refine WO_nil ?_
    refine thn_normal ?_
    refine W_seq ?_
    refine W_region rfl ?_
    refine WO_p (PS_assign_int rfl) ?_
    refine WO_nil ?_
    refine thn_normal ?_
    refine W_seq ?_
    refine W_region rfl ?_
    refine WO_p (PS_assign_slice rfl) ?_
    refine WO_nil ?_
    refine thn_normal ?_
    refine W_seq ?_
    refine W_region rfl ?_
    refine WO_p (PS_move_ptr rfl) ?_
    refine WO_call Hvac.call104 (by rfl) (Ret.mono (opcode_spec C c v B m t f _ (MS.ext hM (by repeat (first | assumption | exact Ext.refl _ | refine Ext.alloc ?_ _ | refine Ext.drew ?_ | refine Ext.setB ?_ (by first | omega | (simp only [size_alloc, size_setB, size_drew]; omega)) _ | exact Ext.trans (by assumption) (by assumption) | refine Ext.trans ?_ (by assumption)))) hR hcl) ?_)
    rintro _ w104_6 ⟨hE104_6, rfl⟩
    have hz104_6 := hE104_6.1
    try simp only [size_alloc, size_setB, size_drew] at hz104_6
    try rw [hop]
    refine WO_p (PS_assign_int rfl) ?_
    refine WO_nil ?_
    refine thn_normal ?_
    refine W_seq ?_
    refine W_seq ?_
    refine W_region rfl ?_
    refine WO_p (PS_move_int rfl) ?_
    refine WO_nil ?_
    refine thn_normal ?_
    refine W_block ?_
    refine W_seq ?_
    refine W_region rfl ?_
    refine WO_p (PS_eql rfl rfl) ?_
    refine WO_p (PS_assign_bool rfl) ?_
    refine WO_nil ?_
    refine thn_normal ?_
    refine W_if rfl (fun hb9 => ?_) (fun hb9 => ?_)
    · have hb9p := hb9.h; try simp only [al_ete, al_dfn, Bool.not_eq_true', Bool.not_eq_false', al_ne, Bool.not_not, al_nn] at hb9p
      have hin : (3 : Int) ≤ f.sp ∧ f.sp - 3 + 0 ≤ 64 := by have h := hk; rw [show o = 55 from by omega] at h; exact h
      have hre := hAd.re (by rw [show o = 55 from by omega]; rfl)
      rw [show o = 55 from by omega] at hre
      replace hre : (reachW (m.argW f 0) (m.argW f 2)).2 = true ∧ 32 * (reachW (m.argW f 0) (m.argW f 2)).1 ≤ szOf m.base t := hre
      have hft := reach_fit (hwdA 2) hre.1
      have hre2 := hre.2
      have hoN : o = 55 := by omega
      refine W_region rfl ?_
      refine WO_p (PS_move_ptr rfl) ?_
      refine WO_p (PS_nilCheck rfl) ?_
      refine WO_p (PS_fieldAddr 54 Hvac.runUnderlying66 rfl Hvac.sizeOf32 rfl rfl) ?_
      refine WO_load (.slice _ _ _) Hvac.isAgg32 rfl (Hb.h (by repeat (first | assumption | exact Hb.newY _ _ | refine Hb.alloc ?_ | refine Hb.drew ?_ | refine Hb.ext (by assumption) ?_ | exact Hb.setSameL (by first | omega | (simp only [size_alloc, size_setB, size_drew]; omega)) | exact Hb.setSame (by assumption) | refine Hb.set (by first | omega | (simp only [size_alloc, size_setB, size_drew]; omega)) ?_ ))) (Ce.h (by first | assumption | exact ⟨rfl⟩)) ?_
      refine WO_p (PS_assign_slice rfl) ?_
      refine WO_nil ?_
      refine inBlk_normal ?_
      refine thn_normal ?_
      refine W_seq ?_
      refine W_region rfl ?_
      refine WO_p (PS_assign_bool rfl) ?_
      refine WO_nil ?_
      refine thn_normal ?_
      refine W_seq ?_
      refine W_seq ?_
      refine W_region rfl ?_
      refine WO_p (PS_move_int rfl) ?_
      refine WO_p (PS_eql rfl rfl) ?_
      refine WO_nil ?_
      refine thn_normal ?_
      refine W_if rfl (fun hb11 => ?_) (fun hb11 => ?_)
      · have hb11p := hb11.h; try simp only [al_ete, al_dfn, Bool.not_eq_true', Bool.not_eq_false', al_ne, Bool.not_not, al_nn] at hb11p
        (exfalso; omega) --END
      · have hb11p := hb11.h; try simp only [al_ete, al_dfn, Bool.not_eq_true', Bool.not_eq_false', al_ne, Bool.not_not, al_nn] at hb11p
        skip
        refine W_seq ?_
        refine W_region rfl ?_
        refine WO_loadA _ Hvac.isAgg61 Hvac.sizeOf61 rfl (Hb.h (by repeat (first | assumption | exact Hb.newY _ _ | refine Hb.alloc ?_ | refine Hb.drew ?_ | refine Hb.ext (by assumption) ?_ | exact Hb.setSameL (by first | omega | (simp only [size_alloc, size_setB, size_drew]; omega)) | exact Hb.setSame (by assumption) | refine Hb.set (by first | omega | (simp only [size_alloc, size_setB, size_drew]; omega)) ?_ ))) (by first | omega | assumption | rfl | decide | exact Nat.le_refl _ | (simp only [size_ic, Value.cells]; omega) | (simp; omega) | simp) (Xt.h (by first | assumption | exact Xt.whole rfl rfl | exact Xt.whole rfl (by assumption) | exact Xt.whole rfl (by simp only [size_ic, Value.cells]; omega) | exact ⟨rfl⟩)) ?_
        refine WO_call Hvac.call223 (by rfl) (Ret.mono (isz_spec _ _ (hwdA _)) ?_)
        rintro _ w223_11 ⟨rfl, hE223_11⟩
        have hz223_11 := hE223_11.1
        try simp only [size_alloc, size_setB, size_drew] at hz223_11
        refine WO_p (PS_not rfl) ?_
        refine WO_nil ?_
        refine thn_normal ?_
        refine W_if rfl (fun hb15 => ?_) (fun hb15 => ?_)
        · have hb15p := hb15.h; try simp only [al_ete, al_dfn, Bool.not_eq_true', Bool.not_eq_false', al_ne, Bool.not_not, al_nn] at hb15p
          have hnz : ¬ wv (m.argW f 2) = 0 := by simpa using hb15p
          rcases hft with hft | hft
          · exact absurd hft hnz
          obtain ⟨bq, Lq, hbq, _⟩ := hM.buf.some (by omega)
          refine W_drawE [false, false, false, false, true, false, false, true, false, false, false, false] hmix (by kernel_rfl) rfl ?_
          refine WH_p (PS_move_ptr rfl) rfl ?_
          refine WH_p (PS_nilCheck rfl) rfl ?_
          refine WH_p (PS_fieldAddr 1 Hvac.runUnderlying70 rfl Hvac.sizeOf59 rfl rfl) rfl ?_
          refine WH_loadA _ Hvac.isAgg61 Hvac.sizeOf61 rfl (Hb.h (by repeat (first | assumption | exact Hb.newY _ _ | refine Hb.alloc ?_ | refine Hb.drew ?_ | refine Hb.ext (by assumption) ?_ | exact Hb.setSameL (by first | omega | (simp only [size_alloc, size_setB, size_drew]; omega)) | exact Hb.setSame (by assumption) | refine Hb.set (by first | omega | (simp only [size_alloc, size_setB, size_drew]; omega)) ?_ ))) (by first | omega | assumption | rfl | decide | exact Nat.le_refl _ | (simp only [size_ic, Value.cells]; omega) | (simp; omega) | simp) (Xt.h (by first | assumption | exact Xt.whole rfl rfl | exact Xt.whole rfl (by assumption) | exact Xt.whole rfl (by simp only [size_ic, Value.cells]; omega) | exact ⟨rfl⟩)) ?_
          refine WH_call Hvac.call273 (by rfl) (Ret.mono (small_spec _ _ (hwdA _)) ?_)
          rintro _ w273_15 ⟨hE273_15, rfl⟩
          refine ⟨fun _ => (by repeat (first | assumption | exact Ext.refl _ | refine Ext.alloc ?_ _ | refine Ext.drew ?_ | refine Ext.setB ?_ (by first | omega | (simp only [size_alloc, size_setB, size_drew]; omega)) _ | exact Ext.trans (by assumption) (by assumption) | refine Ext.trans ?_ (by assumption))), ?_⟩
          have hz273_15 := hE273_15.1
          try simp only [size_alloc, size_setB, size_drew] at hz273_15
          try rw [small_nat (hwdA 0) (by omega)]
          try rw [small_nat (hwdA 1) (by omega)]
          try rw [small_nat (hwdA 2) (by omega)]
          try rw [small_nat (hwdA 3) (by omega)]
          refine WH_p (PS_move_slice rfl) rfl ?_
          refine WH_loadA _ Hvac.isAgg61 Hvac.sizeOf61 rfl (Hb.h (by repeat (first | assumption | exact Hb.newY _ _ | refine Hb.alloc ?_ | refine Hb.drew ?_ | refine Hb.ext (by assumption) ?_ | exact Hb.setSameL (by first | omega | (simp only [size_alloc, size_setB, size_drew]; omega)) | exact Hb.setSame (by assumption) | refine Hb.set (by first | omega | (simp only [size_alloc, size_setB, size_drew]; omega)) ?_ ))) (by first | omega | assumption | rfl | decide | exact Nat.le_refl _ | (simp only [size_ic, Value.cells]; omega) | (simp; omega) | simp) (Xt.h (by first | assumption | exact Xt.whole rfl rfl | exact Xt.whole rfl (by assumption) | exact Xt.whole rfl (by simp only [size_ic, Value.cells]; omega) | exact ⟨rfl⟩)) ?_
          refine WH_call Hvac.call271 (by rfl) (Ret.mono (source_spec _ _ (hwdA _)) ?_)
          rintro _ w271_16 ⟨hE271_16, rfl⟩
          refine ⟨fun _ => (by repeat (first | assumption | exact Ext.refl _ | refine Ext.alloc ?_ _ | refine Ext.drew ?_ | refine Ext.setB ?_ (by first | omega | (simp only [size_alloc, size_setB, size_drew]; omega)) _ | exact Ext.trans (by assumption) (by assumption) | refine Ext.trans ?_ (by assumption))), ?_⟩
          have hz271_16 := hE271_16.1
          try simp only [size_alloc, size_setB, size_drew] at hz271_16
          rw [source_nat (hwdA _)]
          refine WH_loadA _ Hvac.isAgg61 Hvac.sizeOf61 rfl (Hb.h (by repeat (first | assumption | exact Hb.newY _ _ | refine Hb.alloc ?_ | refine Hb.drew ?_ | refine Hb.ext (by assumption) ?_ | exact Hb.setSameL (by first | omega | (simp only [size_alloc, size_setB, size_drew]; omega)) | exact Hb.setSame (by assumption) | refine Hb.set (by first | omega | (simp only [size_alloc, size_setB, size_drew]; omega)) ?_ ))) (by first | omega | assumption | rfl | decide | exact Nat.le_refl _ | (simp only [size_ic, Value.cells]; omega) | (simp; omega) | simp) (Xt.h (by first | assumption | exact Xt.whole rfl rfl | exact Xt.whole rfl (by assumption) | exact Xt.whole rfl (by simp only [size_ic, Value.cells]; omega) | exact ⟨rfl⟩)) ?_
          refine WH_call Hvac.call273 (by rfl) (Ret.mono (small_spec _ _ (hwdA _)) ?_)
          rintro _ w273_17 ⟨hE273_17, rfl⟩
          refine ⟨(fun h => by cases h), ?_⟩
          have hz273_17 := hE273_17.1
          try simp only [size_alloc, size_setB, size_drew] at hz273_17
          try rw [small_nat (hwdA 0) (by omega)]
          try rw [small_nat (hwdA 1) (by omega)]
          try rw [small_nat (hwdA 2) (by omega)]
          try rw [small_nat (hwdA 3) (by omega)]
          refine WH_call Hvac.call234 (by rfl) (Ret.mono (memWrite_ex C c v B m t lo n (wv (m.argW f 0)).toNat (wv (m.argW f 2)).toNat bq (sourceW (m.argW f 1)).toNat f.inputY _ (MS.ext hM (by repeat (first | assumption | exact Ext.refl _ | refine Ext.alloc ?_ _ | refine Ext.drew ?_ | refine Ext.setB ?_ (by first | omega | (simp only [size_alloc, size_setB, size_drew]; omega)) _ | exact Ext.trans (by assumption) (by assumption) | refine Ext.trans ?_ (by assumption)))) Lm (BufX.ext hLm (by repeat (first | assumption | exact Ext.refl _ | refine Ext.alloc ?_ _ | refine Ext.drew ?_ | refine Ext.setB ?_ (by first | omega | (simp only [size_alloc, size_setB, size_drew]; omega)) _ | exact Ext.trans (by assumption) (by assumption) | refine Ext.trans ?_ (by assumption)))) hT hbq (by omega) (by omega) (rdB w f.inputY) (SC.ext hBI.sc (by repeat (first | assumption | exact Ext.refl _ | refine Ext.alloc ?_ _ | refine Ext.drew ?_ | refine Ext.setB ?_ (by first | omega | (simp only [size_alloc, size_setB, size_drew]; omega)) _ | exact Ext.trans (by assumption) (by assumption) | refine Ext.trans ?_ (by assumption)))) hBI.by_ hil.2 (by omega)) ?_)
          rintro _ w6 ⟨rfl, hR6, L6, hL6, hl6, hg6⟩
          refine ⟨(fun h => by cases h), ?_⟩
          obtain ⟨c2, B2, hM2, hS2⟩ := MRet.pre (w := w) (by repeat (first | assumption | exact Ext.refl _ | refine Ext.alloc ?_ _ | refine Ext.drew ?_ | refine Ext.setB ?_ (by first | omega | (simp only [size_alloc, size_setB, size_drew]; omega)) _ | exact Ext.trans (by assumption) (by assumption) | refine Ext.trans ?_ (by assumption))) hR6
          have hS2w := MStep.trans (MStep.ext (Ext.refl w)) hS2
          have hL6m := copy_mid hl6 (by omega) hg6
          rw [hL6m] at hL6
          have hRw2 := Rel.write hRP hM hS2 hLm hMB htl hMI hf (by rw [ycut_len]; omega) hL6
          have hblk2 := hM2.vs.blk
          refine WH_p (PS_assign_bool rfl) rfl ?_
          refine WH_nil ?_
          refine thn_normal ?_
          refine W_seq ?_
          refine W_seq ?_
          refine W_region rfl ?_
          refine WO_p (PS_move_bool rfl) ?_
          refine WO_p (PS_not rfl) ?_
          refine WO_nil ?_
          refine thn_normal ?_
          refine W_if rfl (fun hb22 => ?_) (fun hb22 => ?_)
          · have hb22p := hb22.h; try simp only [al_ete, al_dfn, Bool.not_eq_true', Bool.not_eq_false', al_ne, Bool.not_not, al_nn] at hb22p
            simp at hb22p --END
          · have hb22p := hb22.h; try simp only [al_ete, al_dfn, Bool.not_eq_true', Bool.not_eq_false', al_ne, Bool.not_not, al_nn] at hb22p
            refine W_skip ?_
            refine thn_normal ?_
            refine W_region rfl ?_
            refine WO_p (PS_move_ptr rfl) ?_
            refine WO_p (PS_move_ptr rfl) ?_
            refine WO_p (PS_move_int rfl) ?_
            refine WO_p (PS_buildI (k := .u64) (zs := [0, 0, 0, 0]) (ps := []) (L := [0, 0, 0, 0]) Hvac.zeroValue61 Hvac.runUnderlying61 Hvac.sizeOf26 rfl rfl rfl rfl) ?_
            refine WO_call Hvac.call235 (by rfl) (Ret.mono (settle_ex C c2 v B2 m t f _ _ _ _ _ (MS.ext hM2 (by repeat (first | assumption | exact Ext.refl _ | refine Ext.alloc ?_ _ | refine Ext.drew ?_ | refine Ext.setB ?_ (by first | omega | (simp only [size_alloc, size_setB, size_drew]; omega)) _ | exact Ext.trans (by assumption) (by assumption) | refine Ext.trans ?_ (by assumption)))) hA (by omega) (by first | (intro _; omega) | (intro h; cases h)) (by first | assumption | exact Wd0 | exact limb_wd (by omega)) (by omega)) ?_)
            rintro _ wS ⟨hRS, hKS⟩
            have hRS2 : MRet w C B m wS v _ := MRet.trans hS2w (MRet.pre (by repeat (first | assumption | exact Ext.refl _ | refine Ext.alloc ?_ _ | refine Ext.drew ?_ | refine Ext.setB ?_ (by first | omega | (simp only [size_alloc, size_setB, size_drew]; omega)) _ | exact Ext.trans (by assumption) (by assumption) | refine Ext.trans ?_ (by assumption))) hRS)
            have hKC := KC.pre (a := w6) (by repeat (first | assumption | exact Ext.refl _ | refine Ext.alloc ?_ _ | refine Ext.drew ?_ | refine Ext.setB ?_ (by first | omega | (simp only [size_alloc, size_setB, size_drew]; omega)) _ | exact Ext.trans (by assumption) (by assumption) | refine Ext.trans ?_ (by assumption))) hKS
            have hK5 : KT 5 w6 wS := KC.kt hKC hblk2 (by decide)
            have hK28 : KT 28 w6 wS := KC.kt hKC hblk2 (by decide)
            refine WO_nil ?_
            first | refine bodyQ_ret0 Hvac.results181 ?_ | refine bodyQ_end0 Hvac.results181 ?_
            exact ⟨v, _, hRS2, (hI.settle hf hI.rw0 hvi (fun _ h => h) (Int.le_refl _) (by omega) (by first | (intro _; omega) | (intro h; cases h)) (by omega) hc).2, hRw2.fin_eff2 hM2 hMI hf hK5 hK28 hoN (by decide) (by simp [yisj]) (fun h => absurd h (by decide)) (k := 3) (by decide) rfl rfl (by decide) (by rw [yeff_55, yargs_d (by decide), yargs_d (by decide), yargs_d (by decide), hy0, hy1, hy2, ycopN (wn_nz (hwdA 2) hnz), ← hFP.inputY, ← cut_src (hwdA 1) (by omega)]; rfl) (by omega)⟩
        · have hb15p := hb15.h; try simp only [al_ete, al_dfn, Bool.not_eq_true', Bool.not_eq_false', al_ne, Bool.not_not, al_nn] at hb15p
          have hzz : wv (m.argW f 2) = 0 := by simpa using hb15p
          refine W_skip ?_
          refine thn_normal ?_
          refine W_seq ?_
          refine W_seq ?_
          refine W_region rfl ?_
          refine WO_p (PS_move_bool rfl) ?_
          refine WO_p (PS_not rfl) ?_
          refine WO_nil ?_
          refine thn_normal ?_
          refine W_condF rfl (congrArg not rfl) ?_
          refine W_skip ?_
          refine thn_normal ?_
          refine W_region rfl ?_
          refine WO_p (PS_move_ptr rfl) ?_
          refine WO_p (PS_move_ptr rfl) ?_
          refine WO_p (PS_move_int rfl) ?_
          refine WO_p (PS_buildI (k := .u64) (zs := [0, 0, 0, 0]) (ps := []) (L := [0, 0, 0, 0]) Hvac.zeroValue61 Hvac.runUnderlying61 Hvac.sizeOf26 rfl rfl rfl rfl) ?_
          refine WO_call Hvac.call235 (by rfl) (Ret.mono (settle_ex C c v B m t f _ _ _ _ _ (MS.ext hM (by repeat (first | assumption | exact Ext.refl _ | refine Ext.alloc ?_ _ | refine Ext.drew ?_ | refine Ext.setB ?_ (by first | omega | (simp only [size_alloc, size_setB, size_drew]; omega)) _ | exact Ext.trans (by assumption) (by assumption) | refine Ext.trans ?_ (by assumption)))) hA (by omega) (by first | (intro _; omega) | (intro h; cases h)) (by first | assumption | exact Wd0 | exact limb_wd (by omega)) (by omega)) ?_)
          rintro _ wS ⟨hRS, hKS⟩
          have hRS2 : MRet w C B m wS v _ := MRet.trans (MStep.ext (Ext.refl w)) (MRet.pre (by repeat (first | assumption | exact Ext.refl _ | refine Ext.alloc ?_ _ | refine Ext.drew ?_ | refine Ext.setB ?_ (by first | omega | (simp only [size_alloc, size_setB, size_drew]; omega)) _ | exact Ext.trans (by assumption) (by assumption) | refine Ext.trans ?_ (by assumption))) hRS)
          have hKC := KC.pre (a := w) (by repeat (first | assumption | exact Ext.refl _ | refine Ext.alloc ?_ _ | refine Ext.drew ?_ | refine Ext.setB ?_ (by first | omega | (simp only [size_alloc, size_setB, size_drew]; omega)) _ | exact Ext.trans (by assumption) (by assumption) | refine Ext.trans ?_ (by assumption))) hKS
          have hK5 : KT 5 w wS := KC.kt hKC hblk (by decide)
          have hK28 : KT 28 w wS := KC.kt hKC hblk (by decide)
          refine WO_nil ?_
          first | refine bodyQ_ret0 Hvac.results181 ?_ | refine bodyQ_end0 Hvac.results181 ?_
          exact ⟨v, _, hRS2, (hI.settle hf hI.rw0 hvi (fun _ h => h) (Int.le_refl _) (by omega) (by first | (intro _; omega) | (intro h; cases h)) (by omega) hc).2, hRl.fin_eff2 hM hMI hf hK5 hK28 hoN (by decide) (by simp [yisj]) (fun h => absurd h (by decide)) (k := 3) (by decide) rfl rfl (by decide) (by rw [yeff_55, yargs_d (by decide), yargs_d (by decide), yargs_d (by decide), hy0, hy1, hy2, ycop0 (wn_z (hwdA 2) hzz)]) (by omega)⟩
    · have hb9p := hb9.h; try simp only [al_ete, al_dfn, Bool.not_eq_true', Bool.not_eq_false', al_ne, Bool.not_not, al_nn] at hb9p
      refine W_seq ?_
      refine W_region rfl ?_
      refine WO_p (PS_eql rfl rfl) ?_
      refine WO_p (PS_assign_bool rfl) ?_
      refine WO_nil ?_
      refine thn_normal ?_
      refine W_if rfl (fun hb27 => ?_) (fun hb27 => ?_)
      · have hb27p := hb27.h; try simp only [al_ete, al_dfn, Bool.not_eq_true', Bool.not_eq_false', al_ne, Bool.not_not, al_nn] at hb27p
        have hin : (3 : Int) ≤ f.sp ∧ f.sp - 3 + 0 ≤ 64 := by have h := hk; rw [show o = 57 from by omega] at h; exact h
        have hre := hAd.re (by rw [show o = 57 from by omega]; rfl)
        rw [show o = 57 from by omega] at hre
        replace hre : (reachW (m.argW f 0) (m.argW f 2)).2 = true ∧ 32 * (reachW (m.argW f 0) (m.argW f 2)).1 ≤ szOf m.base t := hre
        have hft := reach_fit (hwdA 2) hre.1
        have hre2 := hre.2
        have hoN : o = 57 := by omega
        refine W_region rfl ?_
        refine WO_p (PS_move_ptr rfl) ?_
        refine WO_p (PS_nilCheck rfl) ?_
        refine WO_p (PS_fieldAddr 53 Hvac.runUnderlying66 rfl Hvac.sizeOf32 rfl rfl) ?_
        refine WO_load (.slice _ _ _) Hvac.isAgg32 rfl (Hb.h (by repeat (first | assumption | exact Hb.newY _ _ | refine Hb.alloc ?_ | refine Hb.drew ?_ | refine Hb.ext (by assumption) ?_ | exact Hb.setSameL (by first | omega | (simp only [size_alloc, size_setB, size_drew]; omega)) | exact Hb.setSame (by assumption) | refine Hb.set (by first | omega | (simp only [size_alloc, size_setB, size_drew]; omega)) ?_ ))) (Ce.h (by first | assumption | exact ⟨rfl⟩)) ?_
        refine WO_p (PS_assign_slice rfl) ?_
        refine WO_nil ?_
        refine inBlk_normal ?_
        refine thn_normal ?_
        refine W_seq ?_
        refine W_region rfl ?_
        refine WO_p (PS_assign_bool rfl) ?_
        refine WO_nil ?_
        refine thn_normal ?_
        refine W_seq ?_
        refine W_seq ?_
        refine W_region rfl ?_
        refine WO_p (PS_move_int rfl) ?_
        refine WO_p (PS_eql rfl rfl) ?_
        refine WO_nil ?_
        refine thn_normal ?_
        refine W_if rfl (fun hb29 => ?_) (fun hb29 => ?_)
        · have hb29p := hb29.h; try simp only [al_ete, al_dfn, Bool.not_eq_true', Bool.not_eq_false', al_ne, Bool.not_not, al_nn] at hb29p
          (exfalso; omega) --END
        · have hb29p := hb29.h; try simp only [al_ete, al_dfn, Bool.not_eq_true', Bool.not_eq_false', al_ne, Bool.not_not, al_nn] at hb29p
          skip
          refine W_seq ?_
          refine W_region rfl ?_
          refine WO_loadA _ Hvac.isAgg61 Hvac.sizeOf61 rfl (Hb.h (by repeat (first | assumption | exact Hb.newY _ _ | refine Hb.alloc ?_ | refine Hb.drew ?_ | refine Hb.ext (by assumption) ?_ | exact Hb.setSameL (by first | omega | (simp only [size_alloc, size_setB, size_drew]; omega)) | exact Hb.setSame (by assumption) | refine Hb.set (by first | omega | (simp only [size_alloc, size_setB, size_drew]; omega)) ?_ ))) (by first | omega | assumption | rfl | decide | exact Nat.le_refl _ | (simp only [size_ic, Value.cells]; omega) | (simp; omega) | simp) (Xt.h (by first | assumption | exact Xt.whole rfl rfl | exact Xt.whole rfl (by assumption) | exact Xt.whole rfl (by simp only [size_ic, Value.cells]; omega) | exact ⟨rfl⟩)) ?_
          refine WO_call Hvac.call223 (by rfl) (Ret.mono (isz_spec _ _ (hwdA _)) ?_)
          rintro _ w223_29 ⟨rfl, hE223_29⟩
          have hz223_29 := hE223_29.1
          try simp only [size_alloc, size_setB, size_drew] at hz223_29
          refine WO_p (PS_not rfl) ?_
          refine WO_nil ?_
          refine thn_normal ?_
          refine W_if rfl (fun hb33 => ?_) (fun hb33 => ?_)
          · have hb33p := hb33.h; try simp only [al_ete, al_dfn, Bool.not_eq_true', Bool.not_eq_false', al_ne, Bool.not_not, al_nn] at hb33p
            have hnz : ¬ wv (m.argW f 2) = 0 := by simpa using hb33p
            rcases hft with hft | hft
            · exact absurd hft hnz
            obtain ⟨bq, Lq, hbq, _⟩ := hM.buf.some (by omega)
            refine W_drawE [false, false, false, false, true, false, false, true, false, false, false, false] hmix (by kernel_rfl) rfl ?_
            refine WH_p (PS_move_ptr rfl) rfl ?_
            refine WH_p (PS_nilCheck rfl) rfl ?_
            refine WH_p (PS_fieldAddr 1 Hvac.runUnderlying70 rfl Hvac.sizeOf59 rfl rfl) rfl ?_
            refine WH_loadA _ Hvac.isAgg61 Hvac.sizeOf61 rfl (Hb.h (by repeat (first | assumption | exact Hb.newY _ _ | refine Hb.alloc ?_ | refine Hb.drew ?_ | refine Hb.ext (by assumption) ?_ | exact Hb.setSameL (by first | omega | (simp only [size_alloc, size_setB, size_drew]; omega)) | exact Hb.setSame (by assumption) | refine Hb.set (by first | omega | (simp only [size_alloc, size_setB, size_drew]; omega)) ?_ ))) (by first | omega | assumption | rfl | decide | exact Nat.le_refl _ | (simp only [size_ic, Value.cells]; omega) | (simp; omega) | simp) (Xt.h (by first | assumption | exact Xt.whole rfl rfl | exact Xt.whole rfl (by assumption) | exact Xt.whole rfl (by simp only [size_ic, Value.cells]; omega) | exact ⟨rfl⟩)) ?_
            refine WH_call Hvac.call273 (by rfl) (Ret.mono (small_spec _ _ (hwdA _)) ?_)
            rintro _ w273_33 ⟨hE273_33, rfl⟩
            refine ⟨fun _ => (by repeat (first | assumption | exact Ext.refl _ | refine Ext.alloc ?_ _ | refine Ext.drew ?_ | refine Ext.setB ?_ (by first | omega | (simp only [size_alloc, size_setB, size_drew]; omega)) _ | exact Ext.trans (by assumption) (by assumption) | refine Ext.trans ?_ (by assumption))), ?_⟩
            have hz273_33 := hE273_33.1
            try simp only [size_alloc, size_setB, size_drew] at hz273_33
            try rw [small_nat (hwdA 0) (by omega)]
            try rw [small_nat (hwdA 1) (by omega)]
            try rw [small_nat (hwdA 2) (by omega)]
            try rw [small_nat (hwdA 3) (by omega)]
            refine WH_p (PS_move_slice rfl) rfl ?_
            refine WH_loadA _ Hvac.isAgg61 Hvac.sizeOf61 rfl (Hb.h (by repeat (first | assumption | exact Hb.newY _ _ | refine Hb.alloc ?_ | refine Hb.drew ?_ | refine Hb.ext (by assumption) ?_ | exact Hb.setSameL (by first | omega | (simp only [size_alloc, size_setB, size_drew]; omega)) | exact Hb.setSame (by assumption) | refine Hb.set (by first | omega | (simp only [size_alloc, size_setB, size_drew]; omega)) ?_ ))) (by first | omega | assumption | rfl | decide | exact Nat.le_refl _ | (simp only [size_ic, Value.cells]; omega) | (simp; omega) | simp) (Xt.h (by first | assumption | exact Xt.whole rfl rfl | exact Xt.whole rfl (by assumption) | exact Xt.whole rfl (by simp only [size_ic, Value.cells]; omega) | exact ⟨rfl⟩)) ?_
            refine WH_call Hvac.call271 (by rfl) (Ret.mono (source_spec _ _ (hwdA _)) ?_)
            rintro _ w271_34 ⟨hE271_34, rfl⟩
            refine ⟨fun _ => (by repeat (first | assumption | exact Ext.refl _ | refine Ext.alloc ?_ _ | refine Ext.drew ?_ | refine Ext.setB ?_ (by first | omega | (simp only [size_alloc, size_setB, size_drew]; omega)) _ | exact Ext.trans (by assumption) (by assumption) | refine Ext.trans ?_ (by assumption))), ?_⟩
            have hz271_34 := hE271_34.1
            try simp only [size_alloc, size_setB, size_drew] at hz271_34
            rw [source_nat (hwdA _)]
            refine WH_loadA _ Hvac.isAgg61 Hvac.sizeOf61 rfl (Hb.h (by repeat (first | assumption | exact Hb.newY _ _ | refine Hb.alloc ?_ | refine Hb.drew ?_ | refine Hb.ext (by assumption) ?_ | exact Hb.setSameL (by first | omega | (simp only [size_alloc, size_setB, size_drew]; omega)) | exact Hb.setSame (by assumption) | refine Hb.set (by first | omega | (simp only [size_alloc, size_setB, size_drew]; omega)) ?_ ))) (by first | omega | assumption | rfl | decide | exact Nat.le_refl _ | (simp only [size_ic, Value.cells]; omega) | (simp; omega) | simp) (Xt.h (by first | assumption | exact Xt.whole rfl rfl | exact Xt.whole rfl (by assumption) | exact Xt.whole rfl (by simp only [size_ic, Value.cells]; omega) | exact ⟨rfl⟩)) ?_
            refine WH_call Hvac.call273 (by rfl) (Ret.mono (small_spec _ _ (hwdA _)) ?_)
            rintro _ w273_35 ⟨hE273_35, rfl⟩
            refine ⟨(fun h => by cases h), ?_⟩
            have hz273_35 := hE273_35.1
            try simp only [size_alloc, size_setB, size_drew] at hz273_35
            try rw [small_nat (hwdA 0) (by omega)]
            try rw [small_nat (hwdA 1) (by omega)]
            try rw [small_nat (hwdA 2) (by omega)]
            try rw [small_nat (hwdA 3) (by omega)]
            refine WH_call Hvac.call234 (by rfl) (Ret.mono (memWrite_ex C c v B m t lo n (wv (m.argW f 0)).toNat (wv (m.argW f 2)).toNat bq (sourceW (m.argW f 1)).toNat f.code _ (MS.ext hM (by repeat (first | assumption | exact Ext.refl _ | refine Ext.alloc ?_ _ | refine Ext.drew ?_ | refine Ext.setB ?_ (by first | omega | (simp only [size_alloc, size_setB, size_drew]; omega)) _ | exact Ext.trans (by assumption) (by assumption) | refine Ext.trans ?_ (by assumption)))) Lm (BufX.ext hLm (by repeat (first | assumption | exact Ext.refl _ | refine Ext.alloc ?_ _ | refine Ext.drew ?_ | refine Ext.setB ?_ (by first | omega | (simp only [size_alloc, size_setB, size_drew]; omega)) _ | exact Ext.trans (by assumption) (by assumption) | refine Ext.trans ?_ (by assumption)))) hT hbq (by omega) (by omega) f.cb (SC.ext hBC.sc (by repeat (first | assumption | exact Ext.refl _ | refine Ext.alloc ?_ _ | refine Ext.drew ?_ | refine Ext.setB ?_ (by first | omega | (simp only [size_alloc, size_setB, size_drew]; omega)) _ | exact Ext.trans (by assumption) (by assumption) | refine Ext.trans ?_ (by assumption)))) hBC.by_ hccc (by omega)) ?_)
            rintro _ w6 ⟨rfl, hR6, L6, hL6, hl6, hg6⟩
            refine ⟨(fun h => by cases h), ?_⟩
            obtain ⟨c2, B2, hM2, hS2⟩ := MRet.pre (w := w) (by repeat (first | assumption | exact Ext.refl _ | refine Ext.alloc ?_ _ | refine Ext.drew ?_ | refine Ext.setB ?_ (by first | omega | (simp only [size_alloc, size_setB, size_drew]; omega)) _ | exact Ext.trans (by assumption) (by assumption) | refine Ext.trans ?_ (by assumption))) hR6
            have hS2w := MStep.trans (MStep.ext (Ext.refl w)) hS2
            have hL6m := copy_mid hl6 (by omega) hg6
            rw [hL6m] at hL6
            have hRw2 := Rel.write hRP hM hS2 hLm hMB htl hMI hf (by rw [ycut_len]; omega) hL6
            have hblk2 := hM2.vs.blk
            refine WH_p (PS_assign_bool rfl) rfl ?_
            refine WH_nil ?_
            refine thn_normal ?_
            refine W_seq ?_
            refine W_seq ?_
            refine W_region rfl ?_
            refine WO_p (PS_move_bool rfl) ?_
            refine WO_p (PS_not rfl) ?_
            refine WO_nil ?_
            refine thn_normal ?_
            refine W_if rfl (fun hb40 => ?_) (fun hb40 => ?_)
            · have hb40p := hb40.h; try simp only [al_ete, al_dfn, Bool.not_eq_true', Bool.not_eq_false', al_ne, Bool.not_not, al_nn] at hb40p
              simp at hb40p --END
            · have hb40p := hb40.h; try simp only [al_ete, al_dfn, Bool.not_eq_true', Bool.not_eq_false', al_ne, Bool.not_not, al_nn] at hb40p
              refine W_skip ?_
              refine thn_normal ?_
              refine W_region rfl ?_
              refine WO_p (PS_move_ptr rfl) ?_
              refine WO_p (PS_move_ptr rfl) ?_
              refine WO_p (PS_move_int rfl) ?_
              refine WO_p (PS_buildI (k := .u64) (zs := [0, 0, 0, 0]) (ps := []) (L := [0, 0, 0, 0]) Hvac.zeroValue61 Hvac.runUnderlying61 Hvac.sizeOf26 rfl rfl rfl rfl) ?_
              refine WO_call Hvac.call235 (by rfl) (Ret.mono (settle_ex C c2 v B2 m t f _ _ _ _ _ (MS.ext hM2 (by repeat (first | assumption | exact Ext.refl _ | refine Ext.alloc ?_ _ | refine Ext.drew ?_ | refine Ext.setB ?_ (by first | omega | (simp only [size_alloc, size_setB, size_drew]; omega)) _ | exact Ext.trans (by assumption) (by assumption) | refine Ext.trans ?_ (by assumption)))) hA (by omega) (by first | (intro _; omega) | (intro h; cases h)) (by first | assumption | exact Wd0 | exact limb_wd (by omega)) (by omega)) ?_)
              rintro _ wS ⟨hRS, hKS⟩
              have hRS2 : MRet w C B m wS v _ := MRet.trans hS2w (MRet.pre (by repeat (first | assumption | exact Ext.refl _ | refine Ext.alloc ?_ _ | refine Ext.drew ?_ | refine Ext.setB ?_ (by first | omega | (simp only [size_alloc, size_setB, size_drew]; omega)) _ | exact Ext.trans (by assumption) (by assumption) | refine Ext.trans ?_ (by assumption))) hRS)
              have hKC := KC.pre (a := w6) (by repeat (first | assumption | exact Ext.refl _ | refine Ext.alloc ?_ _ | refine Ext.drew ?_ | refine Ext.setB ?_ (by first | omega | (simp only [size_alloc, size_setB, size_drew]; omega)) _ | exact Ext.trans (by assumption) (by assumption) | refine Ext.trans ?_ (by assumption))) hKS
              have hK5 : KT 5 w6 wS := KC.kt hKC hblk2 (by decide)
              have hK28 : KT 28 w6 wS := KC.kt hKC hblk2 (by decide)
              refine WO_nil ?_
              first | refine bodyQ_ret0 Hvac.results181 ?_ | refine bodyQ_end0 Hvac.results181 ?_
              exact ⟨v, _, hRS2, (hI.settle hf hI.rw0 hvi (fun _ h => h) (Int.le_refl _) (by omega) (by first | (intro _; omega) | (intro h; cases h)) (by omega) hc).2, hRw2.fin_eff2 hM2 hMI hf hK5 hK28 hoN (by decide) (by simp [yisj]) (fun h => absurd h (by decide)) (k := 3) (by decide) rfl rfl (by decide) (by rw [yeff_57, yargs_d (by decide), yargs_d (by decide), yargs_d (by decide), hy0, hy1, hy2, ycopN (wn_nz (hwdA 2) hnz), ← hFP.code, ← cut_src (hwdA 1) (by omega)]; rfl) (by omega)⟩
          · have hb33p := hb33.h; try simp only [al_ete, al_dfn, Bool.not_eq_true', Bool.not_eq_false', al_ne, Bool.not_not, al_nn] at hb33p
            have hzz : wv (m.argW f 2) = 0 := by simpa using hb33p
            refine W_skip ?_
            refine thn_normal ?_
            refine W_seq ?_
            refine W_seq ?_
            refine W_region rfl ?_
            refine WO_p (PS_move_bool rfl) ?_
            refine WO_p (PS_not rfl) ?_
            refine WO_nil ?_
            refine thn_normal ?_
            refine W_condF rfl (congrArg not rfl) ?_
            refine W_skip ?_
            refine thn_normal ?_
            refine W_region rfl ?_
            refine WO_p (PS_move_ptr rfl) ?_
            refine WO_p (PS_move_ptr rfl) ?_
            refine WO_p (PS_move_int rfl) ?_
            refine WO_p (PS_buildI (k := .u64) (zs := [0, 0, 0, 0]) (ps := []) (L := [0, 0, 0, 0]) Hvac.zeroValue61 Hvac.runUnderlying61 Hvac.sizeOf26 rfl rfl rfl rfl) ?_
            refine WO_call Hvac.call235 (by rfl) (Ret.mono (settle_ex C c v B m t f _ _ _ _ _ (MS.ext hM (by repeat (first | assumption | exact Ext.refl _ | refine Ext.alloc ?_ _ | refine Ext.drew ?_ | refine Ext.setB ?_ (by first | omega | (simp only [size_alloc, size_setB, size_drew]; omega)) _ | exact Ext.trans (by assumption) (by assumption) | refine Ext.trans ?_ (by assumption)))) hA (by omega) (by first | (intro _; omega) | (intro h; cases h)) (by first | assumption | exact Wd0 | exact limb_wd (by omega)) (by omega)) ?_)
            rintro _ wS ⟨hRS, hKS⟩
            have hRS2 : MRet w C B m wS v _ := MRet.trans (MStep.ext (Ext.refl w)) (MRet.pre (by repeat (first | assumption | exact Ext.refl _ | refine Ext.alloc ?_ _ | refine Ext.drew ?_ | refine Ext.setB ?_ (by first | omega | (simp only [size_alloc, size_setB, size_drew]; omega)) _ | exact Ext.trans (by assumption) (by assumption) | refine Ext.trans ?_ (by assumption))) hRS)
            have hKC := KC.pre (a := w) (by repeat (first | assumption | exact Ext.refl _ | refine Ext.alloc ?_ _ | refine Ext.drew ?_ | refine Ext.setB ?_ (by first | omega | (simp only [size_alloc, size_setB, size_drew]; omega)) _ | exact Ext.trans (by assumption) (by assumption) | refine Ext.trans ?_ (by assumption))) hKS
            have hK5 : KT 5 w wS := KC.kt hKC hblk (by decide)
            have hK28 : KT 28 w wS := KC.kt hKC hblk (by decide)
            refine WO_nil ?_
            first | refine bodyQ_ret0 Hvac.results181 ?_ | refine bodyQ_end0 Hvac.results181 ?_
            exact ⟨v, _, hRS2, (hI.settle hf hI.rw0 hvi (fun _ h => h) (Int.le_refl _) (by omega) (by first | (intro _; omega) | (intro h; cases h)) (by omega) hc).2, hRl.fin_eff2 hM hMI hf hK5 hK28 hoN (by decide) (by simp [yisj]) (fun h => absurd h (by decide)) (k := 3) (by decide) rfl rfl (by decide) (by rw [yeff_57, yargs_d (by decide), yargs_d (by decide), yargs_d (by decide), hy0, hy1, hy2, ycop0 (wn_z (hwdA 2) hzz)]) (by omega)⟩
      · have hb27p := hb27.h; try simp only [al_ete, al_dfn, Bool.not_eq_true', Bool.not_eq_false', al_ne, Bool.not_not, al_nn] at hb27p
        refine W_seq ?_
        refine W_region rfl ?_
        refine WO_p (PS_eql rfl rfl) ?_
        refine WO_p (PS_assign_bool rfl) ?_
        refine WO_nil ?_
        refine thn_normal ?_
        refine W_if rfl (fun hb45 => ?_) (fun hb45 => ?_)
        · have hb45p := hb45.h; try simp only [al_ete, al_dfn, Bool.not_eq_true', Bool.not_eq_false', al_ne, Bool.not_not, al_nn] at hb45p
          have hin : (3 : Int) ≤ f.sp ∧ f.sp - 3 + 0 ≤ 64 := by have h := hk; rw [show o = 62 from by omega] at h; exact h
          have hre := hAd.re (by rw [show o = 62 from by omega]; rfl)
          rw [show o = 62 from by omega] at hre
          replace hre : (reachW (m.argW f 0) (m.argW f 2)).2 = true ∧ 32 * (reachW (m.argW f 0) (m.argW f 2)).1 ≤ szOf m.base t := hre
          have hft := reach_fit (hwdA 2) hre.1
          have hre2 := hre.2
          have hoN : o = 62 := by omega
          refine W_region rfl ?_
          refine WO_p (PS_move_ptr rfl) ?_
          refine WO_p (PS_nilCheck rfl) ?_
          refine WO_p (PS_fieldAddr 2259 Hvac.runUnderlying70 rfl Hvac.sizeOf32 rfl rfl) ?_
          refine WO_load (.slice _ _ _) Hvac.isAgg32 rfl (Hb.h (by repeat (first | assumption | exact Hb.newY _ _ | refine Hb.alloc ?_ | refine Hb.drew ?_ | refine Hb.ext (by assumption) ?_ | exact Hb.setSameL (by first | omega | (simp only [size_alloc, size_setB, size_drew]; omega)) | exact Hb.setSame (by assumption) | refine Hb.set (by first | omega | (simp only [size_alloc, size_setB, size_drew]; omega)) ?_ ))) (Ce.h (by first | assumption | exact ⟨rfl⟩)) ?_
          refine WO_p (PS_assign_slice rfl) ?_
          refine WO_nil ?_
          refine inBlk_normal ?_
          refine thn_normal ?_
          refine W_seq ?_
          refine W_region rfl ?_
          refine WO_p (PS_assign_bool rfl) ?_
          refine WO_nil ?_
          refine thn_normal ?_
          refine W_seq ?_
          refine W_seq ?_
          refine W_region rfl ?_
          refine WO_p (PS_move_int rfl) ?_
          refine WO_p (PS_eql rfl rfl) ?_
          refine WO_nil ?_
          refine thn_normal ?_
          refine W_if rfl (fun hb47 => ?_) (fun hb47 => ?_)
          · have hb47p := hb47.h; try simp only [al_ete, al_dfn, Bool.not_eq_true', Bool.not_eq_false', al_ne, Bool.not_not, al_nn] at hb47p
            (exfalso; omega) --END
          · have hb47p := hb47.h; try simp only [al_ete, al_dfn, Bool.not_eq_true', Bool.not_eq_false', al_ne, Bool.not_not, al_nn] at hb47p
            skip
            refine W_seq ?_
            refine W_region rfl ?_
            refine WO_loadA _ Hvac.isAgg61 Hvac.sizeOf61 rfl (Hb.h (by repeat (first | assumption | exact Hb.newY _ _ | refine Hb.alloc ?_ | refine Hb.drew ?_ | refine Hb.ext (by assumption) ?_ | exact Hb.setSameL (by first | omega | (simp only [size_alloc, size_setB, size_drew]; omega)) | exact Hb.setSame (by assumption) | refine Hb.set (by first | omega | (simp only [size_alloc, size_setB, size_drew]; omega)) ?_ ))) (by first | omega | assumption | rfl | decide | exact Nat.le_refl _ | (simp only [size_ic, Value.cells]; omega) | (simp; omega) | simp) (Xt.h (by first | assumption | exact Xt.whole rfl rfl | exact Xt.whole rfl (by assumption) | exact Xt.whole rfl (by simp only [size_ic, Value.cells]; omega) | exact ⟨rfl⟩)) ?_
            refine WO_call Hvac.call223 (by rfl) (Ret.mono (isz_spec _ _ (hwdA _)) ?_)
            rintro _ w223_47 ⟨rfl, hE223_47⟩
            have hz223_47 := hE223_47.1
            try simp only [size_alloc, size_setB, size_drew] at hz223_47
            refine WO_p (PS_not rfl) ?_
            refine WO_nil ?_
            refine thn_normal ?_
            refine W_if rfl (fun hb51 => ?_) (fun hb51 => ?_)
            · have hb51p := hb51.h; try simp only [al_ete, al_dfn, Bool.not_eq_true', Bool.not_eq_false', al_ne, Bool.not_not, al_nn] at hb51p
              have hnz : ¬ wv (m.argW f 2) = 0 := by simpa using hb51p
              rcases hft with hft | hft
              · exact absurd hft hnz
              obtain ⟨bq, Lq, hbq, _⟩ := hM.buf.some (by omega)
              refine W_drawE [false, false, false, false, true, false, false, true, false, false, false, false] hmix (by kernel_rfl) rfl ?_
              refine WH_p (PS_move_ptr rfl) rfl ?_
              refine WH_p (PS_nilCheck rfl) rfl ?_
              refine WH_p (PS_fieldAddr 1 Hvac.runUnderlying70 rfl Hvac.sizeOf59 rfl rfl) rfl ?_
              refine WH_loadA _ Hvac.isAgg61 Hvac.sizeOf61 rfl (Hb.h (by repeat (first | assumption | exact Hb.newY _ _ | refine Hb.alloc ?_ | refine Hb.drew ?_ | refine Hb.ext (by assumption) ?_ | exact Hb.setSameL (by first | omega | (simp only [size_alloc, size_setB, size_drew]; omega)) | exact Hb.setSame (by assumption) | refine Hb.set (by first | omega | (simp only [size_alloc, size_setB, size_drew]; omega)) ?_ ))) (by first | omega | assumption | rfl | decide | exact Nat.le_refl _ | (simp only [size_ic, Value.cells]; omega) | (simp; omega) | simp) (Xt.h (by first | assumption | exact Xt.whole rfl rfl | exact Xt.whole rfl (by assumption) | exact Xt.whole rfl (by simp only [size_ic, Value.cells]; omega) | exact ⟨rfl⟩)) ?_
              refine WH_call Hvac.call273 (by rfl) (Ret.mono (small_spec _ _ (hwdA _)) ?_)
              rintro _ w273_51 ⟨hE273_51, rfl⟩
              refine ⟨fun _ => (by repeat (first | assumption | exact Ext.refl _ | refine Ext.alloc ?_ _ | refine Ext.drew ?_ | refine Ext.setB ?_ (by first | omega | (simp only [size_alloc, size_setB, size_drew]; omega)) _ | exact Ext.trans (by assumption) (by assumption) | refine Ext.trans ?_ (by assumption))), ?_⟩
              have hz273_51 := hE273_51.1
              try simp only [size_alloc, size_setB, size_drew] at hz273_51
              try rw [small_nat (hwdA 0) (by omega)]
              try rw [small_nat (hwdA 1) (by omega)]
              try rw [small_nat (hwdA 2) (by omega)]
              try rw [small_nat (hwdA 3) (by omega)]
              refine WH_p (PS_move_slice rfl) rfl ?_
              refine WH_loadA _ Hvac.isAgg61 Hvac.sizeOf61 rfl (Hb.h (by repeat (first | assumption | exact Hb.newY _ _ | refine Hb.alloc ?_ | refine Hb.drew ?_ | refine Hb.ext (by assumption) ?_ | exact Hb.setSameL (by first | omega | (simp only [size_alloc, size_setB, size_drew]; omega)) | exact Hb.setSame (by assumption) | refine Hb.set (by first | omega | (simp only [size_alloc, size_setB, size_drew]; omega)) ?_ ))) (by first | omega | assumption | rfl | decide | exact Nat.le_refl _ | (simp only [size_ic, Value.cells]; omega) | (simp; omega) | simp) (Xt.h (by first | assumption | exact Xt.whole rfl rfl | exact Xt.whole rfl (by assumption) | exact Xt.whole rfl (by simp only [size_ic, Value.cells]; omega) | exact ⟨rfl⟩)) ?_
              refine WH_call Hvac.call271 (by rfl) (Ret.mono (source_spec _ _ (hwdA _)) ?_)
              rintro _ w271_52 ⟨hE271_52, rfl⟩
              refine ⟨fun _ => (by repeat (first | assumption | exact Ext.refl _ | refine Ext.alloc ?_ _ | refine Ext.drew ?_ | refine Ext.setB ?_ (by first | omega | (simp only [size_alloc, size_setB, size_drew]; omega)) _ | exact Ext.trans (by assumption) (by assumption) | refine Ext.trans ?_ (by assumption))), ?_⟩
              have hz271_52 := hE271_52.1
              try simp only [size_alloc, size_setB, size_drew] at hz271_52
              rw [source_nat (hwdA _)]
              refine WH_loadA _ Hvac.isAgg61 Hvac.sizeOf61 rfl (Hb.h (by repeat (first | assumption | exact Hb.newY _ _ | refine Hb.alloc ?_ | refine Hb.drew ?_ | refine Hb.ext (by assumption) ?_ | exact Hb.setSameL (by first | omega | (simp only [size_alloc, size_setB, size_drew]; omega)) | exact Hb.setSame (by assumption) | refine Hb.set (by first | omega | (simp only [size_alloc, size_setB, size_drew]; omega)) ?_ ))) (by first | omega | assumption | rfl | decide | exact Nat.le_refl _ | (simp only [size_ic, Value.cells]; omega) | (simp; omega) | simp) (Xt.h (by first | assumption | exact Xt.whole rfl rfl | exact Xt.whole rfl (by assumption) | exact Xt.whole rfl (by simp only [size_ic, Value.cells]; omega) | exact ⟨rfl⟩)) ?_
              refine WH_call Hvac.call273 (by rfl) (Ret.mono (small_spec _ _ (hwdA _)) ?_)
              rintro _ w273_53 ⟨hE273_53, rfl⟩
              refine ⟨(fun h => by cases h), ?_⟩
              have hz273_53 := hE273_53.1
              try simp only [size_alloc, size_setB, size_drew] at hz273_53
              try rw [small_nat (hwdA 0) (by omega)]
              try rw [small_nat (hwdA 1) (by omega)]
              try rw [small_nat (hwdA 2) (by omega)]
              try rw [small_nat (hwdA 3) (by omega)]
              refine WH_call Hvac.call234 (by rfl) (Ret.mono (memWrite_ex C c v B m t lo n (wv (m.argW f 0)).toNat (wv (m.argW f 2)).toNat bq (sourceW (m.argW f 1)).toNat m.ret _ (MS.ext hM (by repeat (first | assumption | exact Ext.refl _ | refine Ext.alloc ?_ _ | refine Ext.drew ?_ | refine Ext.setB ?_ (by first | omega | (simp only [size_alloc, size_setB, size_drew]; omega)) _ | exact Ext.trans (by assumption) (by assumption) | refine Ext.trans ?_ (by assumption)))) Lm (BufX.ext hLm (by repeat (first | assumption | exact Ext.refl _ | refine Ext.alloc ?_ _ | refine Ext.drew ?_ | refine Ext.setB ?_ (by first | omega | (simp only [size_alloc, size_setB, size_drew]; omega)) _ | exact Ext.trans (by assumption) (by assumption) | refine Ext.trans ?_ (by assumption)))) hT hbq (by omega) (by omega) (rdB w m.ret) (SC.ext hBR.sc (by repeat (first | assumption | exact Ext.refl _ | refine Ext.alloc ?_ _ | refine Ext.drew ?_ | refine Ext.setB ?_ (by first | omega | (simp only [size_alloc, size_setB, size_drew]; omega)) _ | exact Ext.trans (by assumption) (by assumption) | refine Ext.trans ?_ (by assumption)))) hBR.by_ hrt.2 (by omega)) ?_)
              rintro _ w6 ⟨rfl, hR6, L6, hL6, hl6, hg6⟩
              refine ⟨(fun h => by cases h), ?_⟩
              obtain ⟨c2, B2, hM2, hS2⟩ := MRet.pre (w := w) (by repeat (first | assumption | exact Ext.refl _ | refine Ext.alloc ?_ _ | refine Ext.drew ?_ | refine Ext.setB ?_ (by first | omega | (simp only [size_alloc, size_setB, size_drew]; omega)) _ | exact Ext.trans (by assumption) (by assumption) | refine Ext.trans ?_ (by assumption))) hR6
              have hS2w := MStep.trans (MStep.ext (Ext.refl w)) hS2
              have hL6m := copy_mid hl6 (by omega) hg6
              rw [hL6m] at hL6
              have hRw2 := Rel.write hRP hM hS2 hLm hMB htl hMI hf (by rw [ycut_len]; omega) hL6
              have hblk2 := hM2.vs.blk
              refine WH_p (PS_assign_bool rfl) rfl ?_
              refine WH_nil ?_
              refine thn_normal ?_
              refine W_seq ?_
              refine W_seq ?_
              refine W_region rfl ?_
              refine WO_p (PS_move_bool rfl) ?_
              refine WO_p (PS_not rfl) ?_
              refine WO_nil ?_
              refine thn_normal ?_
              refine W_if rfl (fun hb58 => ?_) (fun hb58 => ?_)
              · have hb58p := hb58.h; try simp only [al_ete, al_dfn, Bool.not_eq_true', Bool.not_eq_false', al_ne, Bool.not_not, al_nn] at hb58p
                simp at hb58p --END
              · have hb58p := hb58.h; try simp only [al_ete, al_dfn, Bool.not_eq_true', Bool.not_eq_false', al_ne, Bool.not_not, al_nn] at hb58p
                refine W_skip ?_
                refine thn_normal ?_
                refine W_region rfl ?_
                refine WO_p (PS_move_ptr rfl) ?_
                refine WO_p (PS_move_ptr rfl) ?_
                refine WO_p (PS_move_int rfl) ?_
                refine WO_p (PS_buildI (k := .u64) (zs := [0, 0, 0, 0]) (ps := []) (L := [0, 0, 0, 0]) Hvac.zeroValue61 Hvac.runUnderlying61 Hvac.sizeOf26 rfl rfl rfl rfl) ?_
                refine WO_call Hvac.call235 (by rfl) (Ret.mono (settle_ex C c2 v B2 m t f _ _ _ _ _ (MS.ext hM2 (by repeat (first | assumption | exact Ext.refl _ | refine Ext.alloc ?_ _ | refine Ext.drew ?_ | refine Ext.setB ?_ (by first | omega | (simp only [size_alloc, size_setB, size_drew]; omega)) _ | exact Ext.trans (by assumption) (by assumption) | refine Ext.trans ?_ (by assumption)))) hA (by omega) (by first | (intro _; omega) | (intro h; cases h)) (by first | assumption | exact Wd0 | exact limb_wd (by omega)) (by omega)) ?_)
                rintro _ wS ⟨hRS, hKS⟩
                have hRS2 : MRet w C B m wS v _ := MRet.trans hS2w (MRet.pre (by repeat (first | assumption | exact Ext.refl _ | refine Ext.alloc ?_ _ | refine Ext.drew ?_ | refine Ext.setB ?_ (by first | omega | (simp only [size_alloc, size_setB, size_drew]; omega)) _ | exact Ext.trans (by assumption) (by assumption) | refine Ext.trans ?_ (by assumption))) hRS)
                have hKC := KC.pre (a := w6) (by repeat (first | assumption | exact Ext.refl _ | refine Ext.alloc ?_ _ | refine Ext.drew ?_ | refine Ext.setB ?_ (by first | omega | (simp only [size_alloc, size_setB, size_drew]; omega)) _ | exact Ext.trans (by assumption) (by assumption) | refine Ext.trans ?_ (by assumption))) hKS
                have hK5 : KT 5 w6 wS := KC.kt hKC hblk2 (by decide)
                have hK28 : KT 28 w6 wS := KC.kt hKC hblk2 (by decide)
                refine WO_nil ?_
                first | refine bodyQ_ret0 Hvac.results181 ?_ | refine bodyQ_end0 Hvac.results181 ?_
                exact ⟨v, _, hRS2, (hI.settle hf hI.rw0 hvi (fun _ h => h) (Int.le_refl _) (by omega) (by first | (intro _; omega) | (intro h; cases h)) (by omega) hc).2, hRw2.fin_eff2 hM2 hMI hf hK5 hK28 hoN (by decide) (by simp [yisj]) (fun h => absurd h (by decide)) (k := 3) (by decide) rfl rfl (by decide) (by rw [yeff_62, yargs_d (by decide), yargs_d (by decide), yargs_d (by decide), hy0, hy1, hy2, ycopN (wn_nz (hwdA 2) hnz), ← hRP.ret, ← cut_src (hwdA 1) (by omega)]; rfl) (by omega)⟩
            · have hb51p := hb51.h; try simp only [al_ete, al_dfn, Bool.not_eq_true', Bool.not_eq_false', al_ne, Bool.not_not, al_nn] at hb51p
              have hzz : wv (m.argW f 2) = 0 := by simpa using hb51p
              refine W_skip ?_
              refine thn_normal ?_
              refine W_seq ?_
              refine W_seq ?_
              refine W_region rfl ?_
              refine WO_p (PS_move_bool rfl) ?_
              refine WO_p (PS_not rfl) ?_
              refine WO_nil ?_
              refine thn_normal ?_
              refine W_condF rfl (congrArg not rfl) ?_
              refine W_skip ?_
              refine thn_normal ?_
              refine W_region rfl ?_
              refine WO_p (PS_move_ptr rfl) ?_
              refine WO_p (PS_move_ptr rfl) ?_
              refine WO_p (PS_move_int rfl) ?_
              refine WO_p (PS_buildI (k := .u64) (zs := [0, 0, 0, 0]) (ps := []) (L := [0, 0, 0, 0]) Hvac.zeroValue61 Hvac.runUnderlying61 Hvac.sizeOf26 rfl rfl rfl rfl) ?_
              refine WO_call Hvac.call235 (by rfl) (Ret.mono (settle_ex C c v B m t f _ _ _ _ _ (MS.ext hM (by repeat (first | assumption | exact Ext.refl _ | refine Ext.alloc ?_ _ | refine Ext.drew ?_ | refine Ext.setB ?_ (by first | omega | (simp only [size_alloc, size_setB, size_drew]; omega)) _ | exact Ext.trans (by assumption) (by assumption) | refine Ext.trans ?_ (by assumption)))) hA (by omega) (by first | (intro _; omega) | (intro h; cases h)) (by first | assumption | exact Wd0 | exact limb_wd (by omega)) (by omega)) ?_)
              rintro _ wS ⟨hRS, hKS⟩
              have hRS2 : MRet w C B m wS v _ := MRet.trans (MStep.ext (Ext.refl w)) (MRet.pre (by repeat (first | assumption | exact Ext.refl _ | refine Ext.alloc ?_ _ | refine Ext.drew ?_ | refine Ext.setB ?_ (by first | omega | (simp only [size_alloc, size_setB, size_drew]; omega)) _ | exact Ext.trans (by assumption) (by assumption) | refine Ext.trans ?_ (by assumption))) hRS)
              have hKC := KC.pre (a := w) (by repeat (first | assumption | exact Ext.refl _ | refine Ext.alloc ?_ _ | refine Ext.drew ?_ | refine Ext.setB ?_ (by first | omega | (simp only [size_alloc, size_setB, size_drew]; omega)) _ | exact Ext.trans (by assumption) (by assumption) | refine Ext.trans ?_ (by assumption))) hKS
              have hK5 : KT 5 w wS := KC.kt hKC hblk (by decide)
              have hK28 : KT 28 w wS := KC.kt hKC hblk (by decide)
              refine WO_nil ?_
              first | refine bodyQ_ret0 Hvac.results181 ?_ | refine bodyQ_end0 Hvac.results181 ?_
              exact ⟨v, _, hRS2, (hI.settle hf hI.rw0 hvi (fun _ h => h) (Int.le_refl _) (by omega) (by first | (intro _; omega) | (intro h; cases h)) (by omega) hc).2, hRl.fin_eff2 hM hMI hf hK5 hK28 hoN (by decide) (by simp [yisj]) (fun h => absurd h (by decide)) (k := 3) (by decide) rfl rfl (by decide) (by rw [yeff_62, yargs_d (by decide), yargs_d (by decide), yargs_d (by decide), hy0, hy1, hy2, ycop0 (wn_z (hwdA 2) hzz)]) (by omega)⟩
        · have hb45p := hb45.h; try simp only [al_ete, al_dfn, Bool.not_eq_true', Bool.not_eq_false', al_ne, Bool.not_not, al_nn] at hb45p
          refine W_seq ?_
          refine W_region rfl ?_
          refine WO_p (PS_eql rfl rfl) ?_
          refine WO_p (PS_assign_bool rfl) ?_
          refine WO_nil ?_
          refine thn_normal ?_
          refine W_if rfl (fun hb63 => ?_) (fun hb63 => ?_)
          · have hb63p := hb63.h; try simp only [al_ete, al_dfn, Bool.not_eq_true', Bool.not_eq_false', al_ne, Bool.not_not, al_nn] at hb63p
            have hin : (4 : Int) ≤ f.sp ∧ f.sp - 4 + 0 ≤ 64 := by have h := hk; rw [show o = 60 from by omega] at h; exact h
            have hfl : isFlat o = false := by rw [show o = 60 from by omega]; rfl
            have hst0 : (infoW o).2.2.1 = 0 := by rw [show o = 60 from by omega]; rfl
            have hdy := hAd.dy hfl
            obtain ⟨xd, hdr, hxd⟩ := hdy
            have hxd0 := hdr.b0
            have hacc := hdr.acc0 (by omega)
            obtain ⟨q1, v1, hv1⟩ : ∃ q1 v1, v.warmT (addrW (m.argW f 0)) = (q1, v1) := ⟨_, _, rfl⟩
            have hwm := RW.warm (A := addrW (m.argW f 0)) (s' := m.txgas - gasTo m.frames (t + 1)) hI.rw_ hvi (hI.room hM.ty) (by omega)
            rw [hv1] at hwm
            obtain ⟨hq1, hrw1, dj1, da1, hgo1, hwa1⟩ := hwm
            replace hq1 : q1 = true := hq1
            replace hrw1 : RW v1 m S (m.txgas - gasTo m.frames (t + 1)) := hrw1
            replace hgo1 : VGo v v1 dj1 da1 0 0 0 := hgo1
            subst hq1
            have hcd1 : ∀ x ∈ v1.accts, x.code.2.1 ≤ 256 := fun x hx => (hgo1.inv.cd x hx).1
            have hre := hAd.re (by rw [show o = 60 from by omega]; rfl)
            rw [show o = 60 from by omega] at hre
            replace hre : (reachW (m.argW f 1) (m.argW f 3)).2 = true ∧ 32 * (reachW (m.argW f 1) (m.argW f 3)).1 ≤ szOf m.base t := hre
            have hft := reach_fit (hwdA 3) hre.1
            have hre2 := hre.2
            have hoN : o = 60 := by omega
            refine W_seq ?_
            refine W_region rfl ?_
            refine WO_loadA _ Hvac.isAgg61 Hvac.sizeOf61 rfl (Hb.h (by repeat (first | assumption | exact Hb.newY _ _ | refine Hb.alloc ?_ | refine Hb.drew ?_ | refine Hb.ext (by assumption) ?_ | exact Hb.setSameL (by first | omega | (simp only [size_alloc, size_setB, size_drew]; omega)) | exact Hb.setSame (by assumption) | refine Hb.set (by first | omega | (simp only [size_alloc, size_setB, size_drew]; omega)) ?_ ))) (by first | omega | assumption | rfl | decide | exact Nat.le_refl _ | (simp only [size_ic, Value.cells]; omega) | (simp; omega) | simp) (Xt.h (by first | assumption | exact Xt.whole rfl rfl | exact Xt.whole rfl (by assumption) | exact Xt.whole rfl (by simp only [size_ic, Value.cells]; omega) | exact ⟨rfl⟩)) ?_
            refine WO_call Hvac.call267 (by rfl) (Ret.mono (addrOf_spec _ _ (by first | assumption | exact argW_wd hM.ty _ _ | exact Wd0)) ?_)
            rintro _ w267_63 ⟨hE267_63, rfl⟩
            have hz267_63 := hE267_63.1
            try simp only [size_alloc, size_setB, size_drew] at hz267_63
            refine WO_allocG Hvac.zeroValue25 ?_
            intro b9 v9 hg9 hE9 hH9 hl9
            try simp only [size_alloc, size_setB, size_drew] at hg9
            have hzz9 := hE9.1
            try simp only [size_alloc, size_setB, size_drew] at hzz9
            replace hH9 : Hb v9 b9 (.cells (ic .u8 (List.replicate 20 0)) 25 (0, 0)) := hH9
            first | refine WO_storeW Hvac.sizeOf25 rfl (v := .agg _) rfl (Hb.h (by repeat (first | assumption | exact Hb.newY _ _ | refine Hb.alloc ?_ | refine Hb.drew ?_ | refine Hb.ext (by assumption) ?_ | exact Hb.setSameL (by first | omega | (simp only [size_alloc, size_setB, size_drew]; omega)) | exact Hb.setSame (by assumption) | refine Hb.set (by first | omega | (simp only [size_alloc, size_setB, size_drew]; omega)) ?_ ))) rfl (by first | omega | assumption | rfl | decide | exact Nat.le_refl _ | (simp only [size_ic, Value.cells]; omega) | (simp; omega) | simp) (by first | omega | assumption | rfl | decide | exact Nat.le_refl _ | (simp only [size_ic, Value.cells]; omega) | (simp; omega) | simp) (by first | exact oneCell_ic | assumption | exact one_Ws2 _ | exact one_YA2 _ | exact one_YSl2 _ | exact one_YM2 _ | exact one_YT2 _ | exact one_L2 _) ?_ | refine WO_store Hvac.sizeOf25 rfl (v := .agg _) rfl (Hb.h (by repeat (first | assumption | exact Hb.newY _ _ | refine Hb.alloc ?_ | refine Hb.drew ?_ | refine Hb.ext (by assumption) ?_ | exact Hb.setSameL (by first | omega | (simp only [size_alloc, size_setB, size_drew]; omega)) | exact Hb.setSame (by assumption) | refine Hb.set (by first | omega | (simp only [size_alloc, size_setB, size_drew]; omega)) ?_ ))) (by first | omega | assumption | rfl | decide | exact Nat.le_refl _ | (simp only [size_ic, Value.cells]; omega) | (simp; omega) | simp) (by first | omega | assumption | rfl | decide | exact Nat.le_refl _ | (simp only [size_ic, Value.cells]; omega) | (simp; omega) | simp) (by first | exact oneCell_ic | assumption | exact one_Ws2 _ | exact one_YA2 _ | exact one_YSl2 _ | exact one_YM2 _ | exact one_YT2 _ | exact one_L2 _) ?_
            refine WO_nil ?_
            refine thn_normal ?_
            refine W_seq ?_
            refine W_seq ?_
            refine W_region rfl ?_
            refine WO_p (PS_move_ptr rfl) ?_
            refine WO_loadA _ Hvac.isAgg25 Hvac.sizeOf25 rfl (Hb.h (by repeat (first | assumption | exact Hb.newY _ _ | refine Hb.alloc ?_ | refine Hb.drew ?_ | refine Hb.ext (by assumption) ?_ | exact Hb.setSameL (by first | omega | (simp only [size_alloc, size_setB, size_drew]; omega)) | exact Hb.setSame (by assumption) | refine Hb.set (by first | omega | (simp only [size_alloc, size_setB, size_drew]; omega)) ?_ ))) (by first | omega | assumption | rfl | decide | exact Nat.le_refl _ | (simp only [size_ic, Value.cells]; omega) | (simp; omega) | simp) (Xt.h (by first | assumption | exact Xt.whole rfl rfl | exact Xt.whole rfl (by assumption) | exact Xt.whole rfl (by simp only [size_ic, Value.cells]; omega) | exact ⟨rfl⟩)) ?_
            refine WO_call Hvac.call268 (by rfl) (Ret.mono (warmAcct_ex C c v B m (addrW (m.argW f 0)) _ (MS.ext hM (by repeat (first | assumption | exact Ext.refl _ | refine Ext.alloc ?_ _ | refine Ext.drew ?_ | refine Ext.setB ?_ (by first | omega | (simp only [size_alloc, size_setB, size_drew]; omega)) _ | exact Ext.trans (by assumption) (by assumption) | refine Ext.trans ?_ (by assumption)))) (addrW_by _)) ?_)
            rintro _ w1 ⟨rfl, hR1, hKa, hKb⟩
            rw [hv1] at hR1 ⊢
            have hKa1 : KT 5 w w1 := (KT.ext (by repeat (first | assumption | exact Ext.refl _ | refine Ext.alloc ?_ _ | refine Ext.drew ?_ | refine Ext.setB ?_ (by first | omega | (simp only [size_alloc, size_setB, size_drew]; omega)) _ | exact Ext.trans (by assumption) (by assumption) | refine Ext.trans ?_ (by assumption)))).trans hKa
            have hKb1 : KT 28 w w1 := (KT.ext (by repeat (first | assumption | exact Ext.refl _ | refine Ext.alloc ?_ _ | refine Ext.drew ?_ | refine Ext.setB ?_ (by first | omega | (simp only [size_alloc, size_setB, size_drew]; omega)) _ | exact Ext.trans (by assumption) (by assumption) | refine Ext.trans ?_ (by assumption)))).trans hKb
            have hwx := warmT_x hvi (hI.room hM.ty) (addrW (m.argW f 0))
            rw [hv1] at hwx
            have hRw : Rel w1 v1 m (ysWarmA y (ywith y.now.warmA (addrW (m.argW f 0))), rest ++ [g]) := hRl.vgo hM hvi hKa1 hKb1 hwx.1 (fun rd h => hwx.2 rd _ h) (hI.snx htl)
            obtain ⟨c1, B1, hM1, hS1⟩ := hR1
            replace hM1 : MS w1 C c1 v1 B1 m := hM1
            have hz1 := hS1.keep.sz
            try simp only [size_alloc, size_setB, size_drew] at hz1
            have hb91 := hS1.hb (Hb.mk (b := b9) (Hb.h (by repeat (first | assumption | exact Hb.newY _ _ | refine Hb.alloc ?_ | refine Hb.drew ?_ | refine Hb.ext (by assumption) ?_ | exact Hb.setSameL (by first | omega | (simp only [size_alloc, size_setB, size_drew]; omega)) | exact Hb.setSame (by assumption) | refine Hb.set (by first | omega | (simp only [size_alloc, size_setB, size_drew]; omega)) ?_ )))) (hM.fresh (by omega))
            have hb31 := hS1.hb (b := b3) (o := .cells (Value.agg (ic .u64 (m.argW f 0))).cells 61 (0, 0)) (Hb.mk (Hb.h (by repeat (first | assumption | exact Hb.newY _ _ | refine Hb.alloc ?_ | refine Hb.drew ?_ | refine Hb.ext (by assumption) ?_ | exact Hb.setSameL (by first | omega | (simp only [size_alloc, size_setB, size_drew]; omega)) | exact Hb.setSame (by assumption) | refine Hb.set (by first | omega | (simp only [size_alloc, size_setB, size_drew]; omega)) ?_ )))) (hM.fresh (by omega))
            have hb41 := hS1.hb (b := b4) (o := .cells (Value.agg (ic .u64 (m.argW f 1))).cells 61 (0, 0)) (Hb.mk (Hb.h (by repeat (first | assumption | exact Hb.newY _ _ | refine Hb.alloc ?_ | refine Hb.drew ?_ | refine Hb.ext (by assumption) ?_ | exact Hb.setSameL (by first | omega | (simp only [size_alloc, size_setB, size_drew]; omega)) | exact Hb.setSame (by assumption) | refine Hb.set (by first | omega | (simp only [size_alloc, size_setB, size_drew]; omega)) ?_ )))) (hM.fresh (by omega))
            have hb51 := hS1.hb (b := b5) (o := .cells (Value.agg (ic .u64 (m.argW f 2))).cells 61 (0, 0)) (Hb.mk (Hb.h (by repeat (first | assumption | exact Hb.newY _ _ | refine Hb.alloc ?_ | refine Hb.drew ?_ | refine Hb.ext (by assumption) ?_ | exact Hb.setSameL (by first | omega | (simp only [size_alloc, size_setB, size_drew]; omega)) | exact Hb.setSame (by assumption) | refine Hb.set (by first | omega | (simp only [size_alloc, size_setB, size_drew]; omega)) ?_ )))) (hM.fresh (by omega))
            have hS1w := (MStep.ext (w := w) (C := C) (B := B) (m := m) (by repeat (first | assumption | exact Ext.refl _ | refine Ext.alloc ?_ _ | refine Ext.drew ?_ | refine Ext.setB ?_ (by first | omega | (simp only [size_alloc, size_setB, size_drew]; omega)) _ | exact Ext.trans (by assumption) (by assumption) | refine Ext.trans ?_ (by assumption)))).trans hS1
            have hblk1 := hM1.vs.blk
            have hcs1 := hM1.sz
            have hc_s1 := hM1.rep.s
            have hwb1 := bal_wd hM1.vs.ty (addrW (m.argW f 0))
            have hwbl1 := hwb1.1
            obtain ⟨Lm1, _, hRP1⟩ := hRw.ex
            have hVR1 := hRP1.vr
            have hcq : ∀ W, Ext w1 W → rdB W (v1.acY (addrW (m.argW f 0))).code = (yacct y.now.accts (addrW (m.argW f 0))).code := fun W hW => ((ac_code_bs hM1.vs hgo1.inv _).rde hW).trans (hVR1.codeV hgo1.inv _)
            have hcl1 := (ac_code hgo1.inv (A := addrW (m.argW f 0))).1
            have hay := addrW_y (hwdA 0)
            refine WO_p (PS_not rfl) ?_
            refine WO_nil ?_
            refine thn_normal ?_
            refine W_if rfl (fun hb68 => ?_) (fun hb68 => ?_)
            · have hb68p := hb68.h; try simp only [al_ete, al_dfn, Bool.not_eq_true', Bool.not_eq_false', al_ne, Bool.not_not, al_nn] at hb68p
              simp at hb68p --END
            · have hb68p := hb68.h; try simp only [al_ete, al_dfn, Bool.not_eq_true', Bool.not_eq_false', al_ne, Bool.not_not, al_nn] at hb68p
              refine W_skip ?_
              refine thn_normal ?_
              refine W_seq ?_
              refine W_drawE [false, false, false, false, false, false, false] hmix (by kernel_rfl) rfl ?_
              refine WH_p (PS_move_ptr rfl) rfl ?_
              refine WH_p (PS_nilCheck rfl) rfl ?_
              refine WH_p (PS_fieldAddr 0 Hvac.runUnderlying70 rfl Hvac.sizeOf55 rfl rfl) rfl ?_
              refine WH_load (.pointer _) Hvac.isAgg55 rfl (Hb.h (by repeat (first | assumption | exact Hb.newY _ _ | refine Hb.alloc ?_ | refine Hb.drew ?_ | refine Hb.ext (by assumption) ?_ | exact Hb.setSameL (by first | omega | (simp only [size_alloc, size_setB, size_drew]; omega)) | exact Hb.setSame (by assumption) | refine Hb.set (by first | omega | (simp only [size_alloc, size_setB, size_drew]; omega)) ?_ ))) (Ce.h (by first | assumption | exact ⟨rfl⟩)) ?_
              refine WH_loadA _ Hvac.isAgg25 Hvac.sizeOf25 rfl (Hb.h (by repeat (first | assumption | exact Hb.newY _ _ | refine Hb.alloc ?_ | refine Hb.drew ?_ | refine Hb.ext (by assumption) ?_ | exact Hb.setSameL (by first | omega | (simp only [size_alloc, size_setB, size_drew]; omega)) | exact Hb.setSame (by assumption) | refine Hb.set (by first | omega | (simp only [size_alloc, size_setB, size_drew]; omega)) ?_ ))) (by first | omega | assumption | rfl | decide | exact Nat.le_refl _ | (simp only [size_ic, Value.cells]; omega) | (simp; omega) | simp) (Xt.h (by first | assumption | exact Xt.whole rfl rfl | exact Xt.whole rfl (by assumption) | exact Xt.whole rfl (by simp only [size_ic, Value.cells]; omega) | exact ⟨rfl⟩)) ?_
              refine WH_call Hvac.call71 (by rfl) (Ret.mono (code_exL C c1 v1 B1 (bb m) _ _ (VS.ext hM1.vs (by repeat (first | assumption | exact Ext.refl _ | refine Ext.alloc ?_ _ | refine Ext.drew ?_ | refine Ext.setB ?_ (by first | omega | (simp only [size_alloc, size_setB, size_drew]; omega)) _ | exact Ext.trans (by assumption) (by assumption) | refine Ext.trans ?_ (by assumption)))) (addrW_by _) hcd1 _ (hcq _ (by repeat (first | assumption | exact Ext.refl _ | refine Ext.alloc ?_ _ | refine Ext.drew ?_ | refine Ext.setB ?_ (by first | omega | (simp only [size_alloc, size_setB, size_drew]; omega)) _ | exact Ext.trans (by assumption) (by assumption) | refine Ext.trans ?_ (by assumption))))) ?_)
              rintro _ w41 ⟨hE71_68, s5, rfl, hN5, hB5, hL5⟩
              refine ⟨(fun h => by cases h), ?_⟩
              have hz71_68 := hE71_68.1
              try simp only [size_alloc, size_setB, size_drew] at hz71_68
              have hsc5 := hN5.sc
              have hcap5 := hN5.cap
              have hlen5 := hN5.len
              have hlt5 : s5.2.1 ≤ 256 := by omega
              replace hB5 : By8 _ := hB5
              have hlc5 : (yacct y.now.accts (addrW (m.argW f 0))).code.length ≤ 1000000 := by omega
              refine WH_p (PS_assign_slice rfl) rfl ?_
              refine WH_nil ?_
              refine thn_normal ?_
              refine W_seq ?_
              refine W_region rfl ?_
              refine WO_loadA _ Hvac.isAgg61 Hvac.sizeOf61 rfl (Hb.h (by repeat (first | assumption | exact Hb.newY _ _ | refine Hb.alloc ?_ | refine Hb.drew ?_ | refine Hb.ext (by assumption) ?_ | exact Hb.setSameL (by first | omega | (simp only [size_alloc, size_setB, size_drew]; omega)) | exact Hb.setSame (by assumption) | refine Hb.set (by first | omega | (simp only [size_alloc, size_setB, size_drew]; omega)) ?_ ))) (by first | omega | assumption | rfl | decide | exact Nat.le_refl _ | (simp only [size_ic, Value.cells]; omega) | (simp; omega) | simp) (Xt.h (by first | assumption | exact Xt.whole rfl rfl | exact Xt.whole rfl (by assumption) | exact Xt.whole rfl (by simp only [size_ic, Value.cells]; omega) | exact ⟨rfl⟩)) ?_
              first | refine WO_storeW Hvac.sizeOf61 rfl (v := .agg _) rfl (Hb.h (by repeat (first | assumption | exact Hb.newY _ _ | refine Hb.alloc ?_ | refine Hb.drew ?_ | refine Hb.ext (by assumption) ?_ | exact Hb.setSameL (by first | omega | (simp only [size_alloc, size_setB, size_drew]; omega)) | exact Hb.setSame (by assumption) | refine Hb.set (by first | omega | (simp only [size_alloc, size_setB, size_drew]; omega)) ?_ ))) rfl (by first | omega | assumption | rfl | decide | exact Nat.le_refl _ | (simp only [size_ic, Value.cells]; omega) | (simp; omega) | simp) (by first | omega | assumption | rfl | decide | exact Nat.le_refl _ | (simp only [size_ic, Value.cells]; omega) | (simp; omega) | simp) (by first | exact oneCell_ic | assumption | exact one_Ws2 _ | exact one_YA2 _ | exact one_YSl2 _ | exact one_YM2 _ | exact one_YT2 _ | exact one_L2 _) ?_ | refine WO_store Hvac.sizeOf61 rfl (v := .agg _) rfl (Hb.h (by repeat (first | assumption | exact Hb.newY _ _ | refine Hb.alloc ?_ | refine Hb.drew ?_ | refine Hb.ext (by assumption) ?_ | exact Hb.setSameL (by first | omega | (simp only [size_alloc, size_setB, size_drew]; omega)) | exact Hb.setSame (by assumption) | refine Hb.set (by first | omega | (simp only [size_alloc, size_setB, size_drew]; omega)) ?_ ))) (by first | omega | assumption | rfl | decide | exact Nat.le_refl _ | (simp only [size_ic, Value.cells]; omega) | (simp; omega) | simp) (by first | omega | assumption | rfl | decide | exact Nat.le_refl _ | (simp only [size_ic, Value.cells]; omega) | (simp; omega) | simp) (by first | exact oneCell_ic | assumption | exact one_Ws2 _ | exact one_YA2 _ | exact one_YSl2 _ | exact one_YM2 _ | exact one_YT2 _ | exact one_L2 _) ?_
              refine WO_nil ?_
              refine thn_normal ?_
              refine W_seq ?_
              have hM20 : MS (setB w41 b3 (.cells (Value.agg (Value.agg (ic .u64 (m.argW f 1))).cells).cells 61 (0, 0))) C c1 v1 B1 m := MS.loc (MS.ext hM1 (by repeat (first | assumption | exact Ext.refl _ | refine Ext.alloc ?_ _ | refine Ext.drew ?_ | refine Ext.setB ?_ (by first | omega | (simp only [size_alloc, size_setB, size_drew]; omega)) _ | exact Ext.trans (by assumption) (by assumption) | refine Ext.trans ?_ (by assumption)))) (x := (Value.agg (ic .u64 (m.argW f 0))).cells) (Hb.mk (Hb.h (by repeat (first | assumption | exact Hb.newY _ _ | refine Hb.alloc ?_ | refine Hb.drew ?_ | refine Hb.ext (by assumption) ?_ | exact Hb.setSameL (by first | omega | (simp only [size_alloc, size_setB, size_drew]; omega)) | exact Hb.setSame (by assumption) | refine Hb.set (by first | omega | (simp only [size_alloc, size_setB, size_drew]; omega)) ?_ ))))
              have hS20 : MStep w (setB w41 b3 (.cells (Value.agg (Value.agg (ic .u64 (m.argW f 1))).cells).cells 61 (0, 0))) C B m B1 m := MStep.loc (hS1w.trans (MStep.ext (by repeat (first | assumption | exact Ext.refl _ | refine Ext.alloc ?_ _ | refine Ext.drew ?_ | refine Ext.setB ?_ (by first | omega | (simp only [size_alloc, size_setB, size_drew]; omega)) _ | exact Ext.trans (by assumption) (by assumption) | refine Ext.trans ?_ (by assumption))))) (by omega) _
              have hb3x : Hb w41 b3 (.cells (Value.agg (ic .u64 (m.argW f 0))).cells 61 (0, 0)) := Hb.mk (Hb.h (by repeat (first | assumption | exact Hb.newY _ _ | refine Hb.alloc ?_ | refine Hb.drew ?_ | refine Hb.ext (by assumption) ?_ | exact Hb.setSameL (by first | omega | (simp only [size_alloc, size_setB, size_drew]; omega)) | exact Hb.setSame (by assumption) | refine Hb.set (by first | omega | (simp only [size_alloc, size_setB, size_drew]; omega)) ?_ )))
              have hk20 : ∀ T : TypeId, T ≠ 61 → KT T w1 (setB w41 b3 (.cells (Value.agg (Value.agg (ic .u64 (m.argW f 1))).cells).cells 61 (0, 0))) := fun T hT => (KT.ext (by repeat (first | assumption | exact Ext.refl _ | refine Ext.alloc ?_ _ | refine Ext.drew ?_ | refine Ext.setB ?_ (by first | omega | (simp only [size_alloc, size_setB, size_drew]; omega)) _ | exact Ext.trans (by assumption) (by assumption) | refine Ext.trans ?_ (by assumption)))).trans (KT.setB hb3x hT)
              refine W_region rfl ?_
              refine WO_loadA _ Hvac.isAgg61 Hvac.sizeOf61 rfl (Hb.h (by repeat (first | assumption | exact Hb.newY _ _ | refine Hb.alloc ?_ | refine Hb.drew ?_ | refine Hb.ext (by assumption) ?_ | exact Hb.setSameL (by first | omega | (simp only [size_alloc, size_setB, size_drew]; omega)) | exact Hb.setSame (by assumption) | refine Hb.set (by first | omega | (simp only [size_alloc, size_setB, size_drew]; omega)) ?_ ))) (by first | omega | assumption | rfl | decide | exact Nat.le_refl _ | (simp only [size_ic, Value.cells]; omega) | (simp; omega) | simp) (Xt.h (by first | assumption | exact Xt.whole rfl rfl | exact Xt.whole rfl (by assumption) | exact Xt.whole rfl (by simp only [size_ic, Value.cells]; omega) | exact ⟨rfl⟩)) ?_
              first | refine WO_storeW Hvac.sizeOf61 rfl (v := .agg _) rfl (Hb.h (by repeat (first | assumption | exact Hb.newY _ _ | refine Hb.alloc ?_ | refine Hb.drew ?_ | refine Hb.ext (by assumption) ?_ | exact Hb.setSameL (by first | omega | (simp only [size_alloc, size_setB, size_drew]; omega)) | exact Hb.setSame (by assumption) | refine Hb.set (by first | omega | (simp only [size_alloc, size_setB, size_drew]; omega)) ?_ ))) rfl (by first | omega | assumption | rfl | decide | exact Nat.le_refl _ | (simp only [size_ic, Value.cells]; omega) | (simp; omega) | simp) (by first | omega | assumption | rfl | decide | exact Nat.le_refl _ | (simp only [size_ic, Value.cells]; omega) | (simp; omega) | simp) (by first | exact oneCell_ic | assumption | exact one_Ws2 _ | exact one_YA2 _ | exact one_YSl2 _ | exact one_YM2 _ | exact one_YT2 _ | exact one_L2 _) ?_ | refine WO_store Hvac.sizeOf61 rfl (v := .agg _) rfl (Hb.h (by repeat (first | assumption | exact Hb.newY _ _ | refine Hb.alloc ?_ | refine Hb.drew ?_ | refine Hb.ext (by assumption) ?_ | exact Hb.setSameL (by first | omega | (simp only [size_alloc, size_setB, size_drew]; omega)) | exact Hb.setSame (by assumption) | refine Hb.set (by first | omega | (simp only [size_alloc, size_setB, size_drew]; omega)) ?_ ))) (by first | omega | assumption | rfl | decide | exact Nat.le_refl _ | (simp only [size_ic, Value.cells]; omega) | (simp; omega) | simp) (by first | omega | assumption | rfl | decide | exact Nat.le_refl _ | (simp only [size_ic, Value.cells]; omega) | (simp; omega) | simp) (by first | exact oneCell_ic | assumption | exact one_Ws2 _ | exact one_YA2 _ | exact one_YSl2 _ | exact one_YM2 _ | exact one_YT2 _ | exact one_L2 _) ?_
              refine WO_nil ?_
              refine thn_normal ?_
              refine W_seq ?_
              have hM21 : MS (setB (setB w41 b3 (.cells (Value.agg (Value.agg (ic .u64 (m.argW f 1))).cells).cells 61 (0, 0))) b4 (.cells (Value.agg (Value.agg (ic .u64 (m.argW f 2))).cells).cells 61 (0, 0))) C c1 v1 B1 m := MS.loc hM20 (x := (Value.agg (ic .u64 (m.argW f 1))).cells) (Hb.mk (Hb.h (by repeat (first | assumption | exact Hb.newY _ _ | refine Hb.alloc ?_ | refine Hb.drew ?_ | refine Hb.ext (by assumption) ?_ | exact Hb.setSameL (by first | omega | (simp only [size_alloc, size_setB, size_drew]; omega)) | exact Hb.setSame (by assumption) | refine Hb.set (by first | omega | (simp only [size_alloc, size_setB, size_drew]; omega)) ?_ ))))
              have hS21 := hS20.loc (b := b4) (by omega) (.cells (Value.agg (Value.agg (ic .u64 (m.argW f 2))).cells).cells 61 (0, 0))
              have hb4x : Hb (setB w41 b3 (.cells (Value.agg (Value.agg (ic .u64 (m.argW f 1))).cells).cells 61 (0, 0))) b4 (.cells (Value.agg (ic .u64 (m.argW f 1))).cells 61 (0, 0)) := Hb.mk (Hb.h (by repeat (first | assumption | exact Hb.newY _ _ | refine Hb.alloc ?_ | refine Hb.drew ?_ | refine Hb.ext (by assumption) ?_ | exact Hb.setSameL (by first | omega | (simp only [size_alloc, size_setB, size_drew]; omega)) | exact Hb.setSame (by assumption) | refine Hb.set (by first | omega | (simp only [size_alloc, size_setB, size_drew]; omega)) ?_ )))
              have hk21 : ∀ T : TypeId, T ≠ 61 → KT T w1 (setB (setB w41 b3 (.cells (Value.agg (Value.agg (ic .u64 (m.argW f 1))).cells).cells 61 (0, 0))) b4 (.cells (Value.agg (Value.agg (ic .u64 (m.argW f 2))).cells).cells 61 (0, 0))) := fun T hT => (hk20 T hT).trans (KT.setB hb4x hT)
              refine W_region rfl ?_
              refine WO_p (PS_move_ptr rfl) ?_
              refine WO_p (PS_move_ptr rfl) ?_
              refine WO_call Hvac.call239 (by rfl) (Ret.mono (arg_spec C c1 v1 B1 m t f _ _ (MS.ext hM21 (by repeat (first | assumption | exact Ext.refl _ | refine Ext.alloc ?_ _ | refine Ext.drew ?_ | refine Ext.setB ?_ (by first | omega | (simp only [size_alloc, size_setB, size_drew]; omega)) _ | exact Ext.trans (by assumption) (by assumption) | refine Ext.trans ?_ (by assumption)))) hA (by omega)) ?_)
              rintro _ w22 ⟨hE239_69, rfl⟩
              have hz239_69 := hE239_69.1
              try simp only [size_alloc, size_setB, size_drew] at hz239_69
              first | refine WO_storeW Hvac.sizeOf61 rfl (v := .agg _) rfl (Hb.h (by repeat (first | assumption | exact Hb.newY _ _ | refine Hb.alloc ?_ | refine Hb.drew ?_ | refine Hb.ext (by assumption) ?_ | exact Hb.setSameL (by first | omega | (simp only [size_alloc, size_setB, size_drew]; omega)) | exact Hb.setSame (by assumption) | refine Hb.set (by first | omega | (simp only [size_alloc, size_setB, size_drew]; omega)) ?_ ))) rfl (by first | omega | assumption | rfl | decide | exact Nat.le_refl _ | (simp only [size_ic, Value.cells]; omega) | (simp; omega) | simp) (by first | omega | assumption | rfl | decide | exact Nat.le_refl _ | (simp only [size_ic, Value.cells]; omega) | (simp; omega) | simp) (by first | exact oneCell_ic | assumption | exact one_Ws2 _ | exact one_YA2 _ | exact one_YSl2 _ | exact one_YM2 _ | exact one_YT2 _ | exact one_L2 _) ?_ | refine WO_store Hvac.sizeOf61 rfl (v := .agg _) rfl (Hb.h (by repeat (first | assumption | exact Hb.newY _ _ | refine Hb.alloc ?_ | refine Hb.drew ?_ | refine Hb.ext (by assumption) ?_ | exact Hb.setSameL (by first | omega | (simp only [size_alloc, size_setB, size_drew]; omega)) | exact Hb.setSame (by assumption) | refine Hb.set (by first | omega | (simp only [size_alloc, size_setB, size_drew]; omega)) ?_ ))) (by first | omega | assumption | rfl | decide | exact Nat.le_refl _ | (simp only [size_ic, Value.cells]; omega) | (simp; omega) | simp) (by first | omega | assumption | rfl | decide | exact Nat.le_refl _ | (simp only [size_ic, Value.cells]; omega) | (simp; omega) | simp) (by first | exact oneCell_ic | assumption | exact one_Ws2 _ | exact one_YA2 _ | exact one_YSl2 _ | exact one_YM2 _ | exact one_YT2 _ | exact one_L2 _) ?_
              refine WO_nil ?_
              refine thn_normal ?_
              have hM22 : MS (setB w22 b5 (.cells (Value.agg (ic .u64 (m.argW f 3))).cells 61 (0, 0))) C c1 v1 B1 m := MS.loc (MS.ext hM21 (by repeat (first | assumption | exact Ext.refl _ | refine Ext.alloc ?_ _ | refine Ext.drew ?_ | refine Ext.setB ?_ (by first | omega | (simp only [size_alloc, size_setB, size_drew]; omega)) _ | exact Ext.trans (by assumption) (by assumption) | refine Ext.trans ?_ (by assumption)))) (x := (Value.agg (ic .u64 (m.argW f 2))).cells) (Hb.mk (Hb.h (by repeat (first | assumption | exact Hb.newY _ _ | refine Hb.alloc ?_ | refine Hb.drew ?_ | refine Hb.ext (by assumption) ?_ | exact Hb.setSameL (by first | omega | (simp only [size_alloc, size_setB, size_drew]; omega)) | exact Hb.setSame (by assumption) | refine Hb.set (by first | omega | (simp only [size_alloc, size_setB, size_drew]; omega)) ?_ ))))
              have hS22 := (hS21.trans (MStep.ext (w' := w22) (by repeat (first | assumption | exact Ext.refl _ | refine Ext.alloc ?_ _ | refine Ext.drew ?_ | refine Ext.setB ?_ (by first | omega | (simp only [size_alloc, size_setB, size_drew]; omega)) _ | exact Ext.trans (by assumption) (by assumption) | refine Ext.trans ?_ (by assumption))))).loc (b := b5) (by omega) (.cells (Value.agg (ic .u64 (m.argW f 3))).cells 61 (0, 0))
              have hb5x : Hb w22 b5 (.cells (Value.agg (ic .u64 (m.argW f 2))).cells 61 (0, 0)) := Hb.mk (Hb.h (by repeat (first | assumption | exact Hb.newY _ _ | refine Hb.alloc ?_ | refine Hb.drew ?_ | refine Hb.ext (by assumption) ?_ | exact Hb.setSameL (by first | omega | (simp only [size_alloc, size_setB, size_drew]; omega)) | exact Hb.setSame (by assumption) | refine Hb.set (by first | omega | (simp only [size_alloc, size_setB, size_drew]; omega)) ?_ )))
              have hE2122 : Ext (setB (setB w41 b3 (.cells (Value.agg (Value.agg (ic .u64 (m.argW f 1))).cells).cells 61 (0, 0))) b4 (.cells (Value.agg (Value.agg (ic .u64 (m.argW f 2))).cells).cells 61 (0, 0))) w22 := (by repeat (first | assumption | exact Ext.refl _ | refine Ext.alloc ?_ _ | refine Ext.drew ?_ | refine Ext.setB ?_ (by first | omega | (simp only [size_alloc, size_setB, size_drew]; omega)) _ | exact Ext.trans (by assumption) (by assumption) | refine Ext.trans ?_ (by assumption)))
              have hk22 : ∀ T : TypeId, T ≠ 61 → KT T w1 (setB w22 b5 (.cells (Value.agg (ic .u64 (m.argW f 3))).cells 61 (0, 0))) := fun T hT => ((hk21 T hT).trans (KT.ext hE2122)).trans (KT.setB hb5x hT)
              have hkc : ∀ T : TypeId, T ≠ 61 → KT T w41 (setB w22 b5 (.cells (Value.agg (ic .u64 (m.argW f 3))).cells 61 (0, 0))) := fun T hT => (((KT.setB hb3x hT).trans (KT.setB hb4x hT)).trans (KT.ext hE2122)).trans (KT.setB hb5x hT)
              have hsc22 := sc_kt hN5 (hkc 5 (by decide))
              have hRw22 := hRw.kt hM1 (hk22 5 (by decide)) (hk22 28 (by decide))
              obtain ⟨Lm2, hLm2, hFP2, hRP2⟩ := hRw22.top hMI hf
              have hLle2 := hLm2.le
              have hblk22 := hM22.vs.blk
              refine W_region rfl ?_
              refine WO_p (PS_assign_int rfl) ?_
              refine WO_nil ?_
              refine inBlk_normal ?_
              refine thn_normal ?_
              refine W_seq ?_
              refine W_region rfl ?_
              refine WO_p (PS_assign_bool rfl) ?_
              refine WO_nil ?_
              refine thn_normal ?_
              refine W_seq ?_
              refine W_seq ?_
              refine W_region rfl ?_
              refine WO_p (PS_move_int rfl) ?_
              refine WO_p (PS_eql rfl rfl) ?_
              refine WO_nil ?_
              refine thn_normal ?_
              refine W_if rfl (fun hb72 => ?_) (fun hb72 => ?_)
              · have hb72p := hb72.h; try simp only [al_ete, al_dfn, Bool.not_eq_true', Bool.not_eq_false', al_ne, Bool.not_not, al_nn] at hb72p
                (exfalso; omega) --END
              · have hb72p := hb72.h; try simp only [al_ete, al_dfn, Bool.not_eq_true', Bool.not_eq_false', al_ne, Bool.not_not, al_nn] at hb72p
                skip
                refine W_seq ?_
                refine W_region rfl ?_
                refine WO_loadA _ Hvac.isAgg61 Hvac.sizeOf61 rfl (Hb.h (by repeat (first | assumption | exact Hb.newY _ _ | refine Hb.alloc ?_ | refine Hb.drew ?_ | refine Hb.ext (by assumption) ?_ | exact Hb.setSameL (by first | omega | (simp only [size_alloc, size_setB, size_drew]; omega)) | exact Hb.setSame (by assumption) | refine Hb.set (by first | omega | (simp only [size_alloc, size_setB, size_drew]; omega)) ?_ ))) (by first | omega | assumption | rfl | decide | exact Nat.le_refl _ | (simp only [size_ic, Value.cells]; omega) | (simp; omega) | simp) (Xt.h (by first | assumption | exact Xt.whole rfl rfl | exact Xt.whole rfl (by assumption) | exact Xt.whole rfl (by simp only [size_ic, Value.cells]; omega) | exact ⟨rfl⟩)) ?_
                refine WO_call Hvac.call223 (by rfl) (Ret.mono (isz_spec _ _ (hwdA _)) ?_)
                rintro _ w223_72 ⟨rfl, hE223_72⟩
                have hz223_72 := hE223_72.1
                try simp only [size_alloc, size_setB, size_drew] at hz223_72
                refine WO_p (PS_not rfl) ?_
                refine WO_nil ?_
                refine thn_normal ?_
                refine W_if rfl (fun hb76 => ?_) (fun hb76 => ?_)
                · have hb76p := hb76.h; try simp only [al_ete, al_dfn, Bool.not_eq_true', Bool.not_eq_false', al_ne, Bool.not_not, al_nn] at hb76p
                  have hnz : ¬ wv (m.argW f 3) = 0 := by simpa using hb76p
                  rcases hft with hft | hft
                  · exact absurd hft hnz
                  obtain ⟨bq, Lq, hbq, _⟩ := hM.buf.some (by omega)
                  refine W_drawE [false, false, false, false, true, false, false, true, false, false, false, false] hmix (by kernel_rfl) rfl ?_
                  refine WH_p (PS_move_ptr rfl) rfl ?_
                  refine WH_p (PS_nilCheck rfl) rfl ?_
                  refine WH_p (PS_fieldAddr 1 Hvac.runUnderlying70 rfl Hvac.sizeOf59 rfl rfl) rfl ?_
                  refine WH_loadA _ Hvac.isAgg61 Hvac.sizeOf61 rfl (Hb.h (by repeat (first | assumption | exact Hb.newY _ _ | refine Hb.alloc ?_ | refine Hb.drew ?_ | refine Hb.ext (by assumption) ?_ | exact Hb.setSameL (by first | omega | (simp only [size_alloc, size_setB, size_drew]; omega)) | exact Hb.setSame (by assumption) | refine Hb.set (by first | omega | (simp only [size_alloc, size_setB, size_drew]; omega)) ?_ ))) (by first | omega | assumption | rfl | decide | exact Nat.le_refl _ | (simp only [size_ic, Value.cells]; omega) | (simp; omega) | simp) (Xt.h (by first | assumption | exact Xt.whole rfl rfl | exact Xt.whole rfl (by assumption) | exact Xt.whole rfl (by simp only [size_ic, Value.cells]; omega) | exact ⟨rfl⟩)) ?_
                  refine WH_call Hvac.call273 (by rfl) (Ret.mono (small_spec _ _ (hwdA _)) ?_)
                  rintro _ w273_76 ⟨hE273_76, rfl⟩
                  refine ⟨fun _ => (by repeat (first | assumption | exact Ext.refl _ | refine Ext.alloc ?_ _ | refine Ext.drew ?_ | refine Ext.setB ?_ (by first | omega | (simp only [size_alloc, size_setB, size_drew]; omega)) _ | exact Ext.trans (by assumption) (by assumption) | refine Ext.trans ?_ (by assumption))), ?_⟩
                  have hz273_76 := hE273_76.1
                  try simp only [size_alloc, size_setB, size_drew] at hz273_76
                  try rw [small_nat (hwdA 0) (by omega)]
                  try rw [small_nat (hwdA 1) (by omega)]
                  try rw [small_nat (hwdA 2) (by omega)]
                  try rw [small_nat (hwdA 3) (by omega)]
                  refine WH_p (PS_move_slice rfl) rfl ?_
                  refine WH_loadA _ Hvac.isAgg61 Hvac.sizeOf61 rfl (Hb.h (by repeat (first | assumption | exact Hb.newY _ _ | refine Hb.alloc ?_ | refine Hb.drew ?_ | refine Hb.ext (by assumption) ?_ | exact Hb.setSameL (by first | omega | (simp only [size_alloc, size_setB, size_drew]; omega)) | exact Hb.setSame (by assumption) | refine Hb.set (by first | omega | (simp only [size_alloc, size_setB, size_drew]; omega)) ?_ ))) (by first | omega | assumption | rfl | decide | exact Nat.le_refl _ | (simp only [size_ic, Value.cells]; omega) | (simp; omega) | simp) (Xt.h (by first | assumption | exact Xt.whole rfl rfl | exact Xt.whole rfl (by assumption) | exact Xt.whole rfl (by simp only [size_ic, Value.cells]; omega) | exact ⟨rfl⟩)) ?_
                  refine WH_call Hvac.call271 (by rfl) (Ret.mono (source_spec _ _ (hwdA _)) ?_)
                  rintro _ w271_77 ⟨hE271_77, rfl⟩
                  refine ⟨fun _ => (by repeat (first | assumption | exact Ext.refl _ | refine Ext.alloc ?_ _ | refine Ext.drew ?_ | refine Ext.setB ?_ (by first | omega | (simp only [size_alloc, size_setB, size_drew]; omega)) _ | exact Ext.trans (by assumption) (by assumption) | refine Ext.trans ?_ (by assumption))), ?_⟩
                  have hz271_77 := hE271_77.1
                  try simp only [size_alloc, size_setB, size_drew] at hz271_77
                  rw [source_nat (hwdA _)]
                  refine WH_loadA _ Hvac.isAgg61 Hvac.sizeOf61 rfl (Hb.h (by repeat (first | assumption | exact Hb.newY _ _ | refine Hb.alloc ?_ | refine Hb.drew ?_ | refine Hb.ext (by assumption) ?_ | exact Hb.setSameL (by first | omega | (simp only [size_alloc, size_setB, size_drew]; omega)) | exact Hb.setSame (by assumption) | refine Hb.set (by first | omega | (simp only [size_alloc, size_setB, size_drew]; omega)) ?_ ))) (by first | omega | assumption | rfl | decide | exact Nat.le_refl _ | (simp only [size_ic, Value.cells]; omega) | (simp; omega) | simp) (Xt.h (by first | assumption | exact Xt.whole rfl rfl | exact Xt.whole rfl (by assumption) | exact Xt.whole rfl (by simp only [size_ic, Value.cells]; omega) | exact ⟨rfl⟩)) ?_
                  refine WH_call Hvac.call273 (by rfl) (Ret.mono (small_spec _ _ (hwdA _)) ?_)
                  rintro _ w273_78 ⟨hE273_78, rfl⟩
                  refine ⟨(fun h => by cases h), ?_⟩
                  have hz273_78 := hE273_78.1
                  try simp only [size_alloc, size_setB, size_drew] at hz273_78
                  try rw [small_nat (hwdA 0) (by omega)]
                  try rw [small_nat (hwdA 1) (by omega)]
                  try rw [small_nat (hwdA 2) (by omega)]
                  try rw [small_nat (hwdA 3) (by omega)]
                  refine WH_call Hvac.call234 (by rfl) (Ret.mono (memWrite_ex C c1 v1 B1 m t lo n (wv (m.argW f 1)).toNat (wv (m.argW f 3)).toNat bq (sourceW (m.argW f 2)).toNat s5 _ (MS.ext hM22 (by repeat (first | assumption | exact Ext.refl _ | refine Ext.alloc ?_ _ | refine Ext.drew ?_ | refine Ext.setB ?_ (by first | omega | (simp only [size_alloc, size_setB, size_drew]; omega)) _ | exact Ext.trans (by assumption) (by assumption) | refine Ext.trans ?_ (by assumption)))) Lm2 (BufX.ext hLm2 (by repeat (first | assumption | exact Ext.refl _ | refine Ext.alloc ?_ _ | refine Ext.drew ?_ | refine Ext.setB ?_ (by first | omega | (simp only [size_alloc, size_setB, size_drew]; omega)) _ | exact Ext.trans (by assumption) (by assumption) | refine Ext.trans ?_ (by assumption)))) hT hbq (by omega) (by omega) (yacct y.now.accts (addrW (m.argW f 0))).code (SC.ext hsc22 (by repeat (first | assumption | exact Ext.refl _ | refine Ext.alloc ?_ _ | refine Ext.drew ?_ | refine Ext.setB ?_ (by first | omega | (simp only [size_alloc, size_setB, size_drew]; omega)) _ | exact Ext.trans (by assumption) (by assumption) | refine Ext.trans ?_ (by assumption)))) hB5 hcap5 (by omega)) ?_)
                  rintro _ w6 ⟨rfl, hR6, L6, hL6, hl6, hg6⟩
                  refine ⟨(fun h => by cases h), ?_⟩
                  obtain ⟨c2, B2, hM2, hS2⟩ := MRet.pre (w := (setB w22 b5 (.cells (Value.agg (ic .u64 (m.argW f 3))).cells 61 (0, 0)))) (by repeat (first | assumption | exact Ext.refl _ | refine Ext.alloc ?_ _ | refine Ext.drew ?_ | refine Ext.setB ?_ (by first | omega | (simp only [size_alloc, size_setB, size_drew]; omega)) _ | exact Ext.trans (by assumption) (by assumption) | refine Ext.trans ?_ (by assumption))) hR6
                  have hS2w := MStep.trans hS22 hS2
                  have hL6m := copy_mid hl6 (by omega) hg6
                  rw [hL6m] at hL6
                  have hRw2 := Rel.write hRP2 hM22 hS2 hLm2 hMB htl hMI hf (by rw [ycut_len]; omega) hL6
                  have hblk2 := hM2.vs.blk
                  refine WH_p (PS_assign_bool rfl) rfl ?_
                  refine WH_nil ?_
                  refine thn_normal ?_
                  refine W_seq ?_
                  refine W_seq ?_
                  refine W_region rfl ?_
                  refine WO_p (PS_move_bool rfl) ?_
                  refine WO_p (PS_not rfl) ?_
                  refine WO_nil ?_
                  refine thn_normal ?_
                  refine W_if rfl (fun hb83 => ?_) (fun hb83 => ?_)
                  · have hb83p := hb83.h; try simp only [al_ete, al_dfn, Bool.not_eq_true', Bool.not_eq_false', al_ne, Bool.not_not, al_nn] at hb83p
                    simp at hb83p --END
                  · have hb83p := hb83.h; try simp only [al_ete, al_dfn, Bool.not_eq_true', Bool.not_eq_false', al_ne, Bool.not_not, al_nn] at hb83p
                    refine W_skip ?_
                    refine thn_normal ?_
                    refine W_region rfl ?_
                    refine WO_p (PS_move_ptr rfl) ?_
                    refine WO_p (PS_move_ptr rfl) ?_
                    refine WO_p (PS_move_int rfl) ?_
                    refine WO_p (PS_buildI (k := .u64) (zs := [0, 0, 0, 0]) (ps := []) (L := [0, 0, 0, 0]) Hvac.zeroValue61 Hvac.runUnderlying61 Hvac.sizeOf26 rfl rfl rfl rfl) ?_
                    refine WO_call Hvac.call235 (by rfl) (Ret.mono (settle_ex C c2 v1 B2 m t f _ _ _ _ _ (MS.ext hM2 (by repeat (first | assumption | exact Ext.refl _ | refine Ext.alloc ?_ _ | refine Ext.drew ?_ | refine Ext.setB ?_ (by first | omega | (simp only [size_alloc, size_setB, size_drew]; omega)) _ | exact Ext.trans (by assumption) (by assumption) | refine Ext.trans ?_ (by assumption)))) hA (by omega) (by first | (intro _; omega) | (intro h; cases h)) (by first | assumption | exact Wd0 | exact limb_wd (by omega)) (by omega)) ?_)
                    rintro _ wS ⟨hRS, hKS⟩
                    have hRS2 : MRet w C B m wS v1 _ := MRet.trans hS2w (MRet.pre (by repeat (first | assumption | exact Ext.refl _ | refine Ext.alloc ?_ _ | refine Ext.drew ?_ | refine Ext.setB ?_ (by first | omega | (simp only [size_alloc, size_setB, size_drew]; omega)) _ | exact Ext.trans (by assumption) (by assumption) | refine Ext.trans ?_ (by assumption))) hRS)
                    have hKC := KC.pre (a := w6) (by repeat (first | assumption | exact Ext.refl _ | refine Ext.alloc ?_ _ | refine Ext.drew ?_ | refine Ext.setB ?_ (by first | omega | (simp only [size_alloc, size_setB, size_drew]; omega)) _ | exact Ext.trans (by assumption) (by assumption) | refine Ext.trans ?_ (by assumption))) hKS
                    have hK5 : KT 5 w6 wS := KC.kt hKC hblk2 (by decide)
                    have hK28 : KT 28 w6 wS := KC.kt hKC hblk2 (by decide)
                    refine WO_nil ?_
                    first | refine bodyQ_ret0 Hvac.results181 ?_ | refine bodyQ_end0 Hvac.results181 ?_
                    exact ⟨v1, _, hRS2, (hI.settle hf hrw1 hgo1.inv hgo1.ent (Int.le_of_eq hgo1.nm.symm) (by omega) (by first | (intro _; omega) | (intro h; cases h)) (by omega) hc).2, hRw2.fin_eff2 hM2 hMI hf hK5 hK28 hoN (by decide) (by simp [yisj]) (fun h => absurd h (by decide)) (k := 4) (by decide) rfl rfl (by decide) (by rw [yeff_60, yargs_d (by decide), yargs_d (by decide), yargs_d (by decide), yargs_d (by decide), hy0, hy1, hy2, hy3, ← hay, ycopN (wn_nz (hwdA 3) hnz), ← cut_src (hwdA 2) hlc5]; rfl) (by omega)⟩
                · have hb76p := hb76.h; try simp only [al_ete, al_dfn, Bool.not_eq_true', Bool.not_eq_false', al_ne, Bool.not_not, al_nn] at hb76p
                  have hzz : wv (m.argW f 3) = 0 := by simpa using hb76p
                  refine W_skip ?_
                  refine thn_normal ?_
                  refine W_seq ?_
                  refine W_seq ?_
                  refine W_region rfl ?_
                  refine WO_p (PS_move_bool rfl) ?_
                  refine WO_p (PS_not rfl) ?_
                  refine WO_nil ?_
                  refine thn_normal ?_
                  refine W_condF rfl (congrArg not rfl) ?_
                  refine W_skip ?_
                  refine thn_normal ?_
                  refine W_region rfl ?_
                  refine WO_p (PS_move_ptr rfl) ?_
                  refine WO_p (PS_move_ptr rfl) ?_
                  refine WO_p (PS_move_int rfl) ?_
                  refine WO_p (PS_buildI (k := .u64) (zs := [0, 0, 0, 0]) (ps := []) (L := [0, 0, 0, 0]) Hvac.zeroValue61 Hvac.runUnderlying61 Hvac.sizeOf26 rfl rfl rfl rfl) ?_
                  refine WO_call Hvac.call235 (by rfl) (Ret.mono (settle_ex C c1 v1 B1 m t f _ _ _ _ _ (MS.ext hM22 (by repeat (first | assumption | exact Ext.refl _ | refine Ext.alloc ?_ _ | refine Ext.drew ?_ | refine Ext.setB ?_ (by first | omega | (simp only [size_alloc, size_setB, size_drew]; omega)) _ | exact Ext.trans (by assumption) (by assumption) | refine Ext.trans ?_ (by assumption)))) hA (by omega) (by first | (intro _; omega) | (intro h; cases h)) (by first | assumption | exact Wd0 | exact limb_wd (by omega)) (by omega)) ?_)
                  rintro _ wS ⟨hRS, hKS⟩
                  have hRS2 : MRet w C B m wS v1 _ := MRet.trans hS22 (MRet.pre (by repeat (first | assumption | exact Ext.refl _ | refine Ext.alloc ?_ _ | refine Ext.drew ?_ | refine Ext.setB ?_ (by first | omega | (simp only [size_alloc, size_setB, size_drew]; omega)) _ | exact Ext.trans (by assumption) (by assumption) | refine Ext.trans ?_ (by assumption))) hRS)
                  have hKC := KC.pre (a := (setB w22 b5 (.cells (Value.agg (ic .u64 (m.argW f 3))).cells 61 (0, 0)))) (by repeat (first | assumption | exact Ext.refl _ | refine Ext.alloc ?_ _ | refine Ext.drew ?_ | refine Ext.setB ?_ (by first | omega | (simp only [size_alloc, size_setB, size_drew]; omega)) _ | exact Ext.trans (by assumption) (by assumption) | refine Ext.trans ?_ (by assumption))) hKS
                  have hK5 : KT 5 (setB w22 b5 (.cells (Value.agg (ic .u64 (m.argW f 3))).cells 61 (0, 0))) wS := KC.kt hKC hblk22 (by decide)
                  have hK28 : KT 28 (setB w22 b5 (.cells (Value.agg (ic .u64 (m.argW f 3))).cells 61 (0, 0))) wS := KC.kt hKC hblk22 (by decide)
                  refine WO_nil ?_
                  first | refine bodyQ_ret0 Hvac.results181 ?_ | refine bodyQ_end0 Hvac.results181 ?_
                  exact ⟨v1, _, hRS2, (hI.settle hf hrw1 hgo1.inv hgo1.ent (Int.le_of_eq hgo1.nm.symm) (by omega) (by first | (intro _; omega) | (intro h; cases h)) (by omega) hc).2, hRw22.fin_eff2 hM22 hMI hf hK5 hK28 hoN (by decide) (by simp [yisj]) (fun h => absurd h (by decide)) (k := 4) (by decide) rfl rfl (by decide) (by rw [yeff_60, yargs_d (by decide), yargs_d (by decide), yargs_d (by decide), yargs_d (by decide), hy0, hy1, hy2, hy3, ← hay, ycop0 (wn_z (hwdA 3) hzz)]) (by omega)⟩
          · have hb63p := hb63.h; try simp only [al_ete, al_dfn, Bool.not_eq_true', Bool.not_eq_false', al_ne, Bool.not_not, al_nn] at hb63p
            have hin : (3 : Int) ≤ f.sp ∧ f.sp - 3 + 0 ≤ 64 := by have h := hk; rw [show o = 94 from by omega] at h; exact h
            have hoN : o = 94 := by omega
            refine W_skip ?_
            refine inBlk_normal ?_
            refine thn_normal ?_
            refine W_seq ?_
            refine W_region rfl ?_
            refine WO_p (PS_assign_bool rfl) ?_
            refine WO_nil ?_
            refine thn_normal ?_
            refine W_seq ?_
            refine W_seq ?_
            refine W_region rfl ?_
            refine WO_p (PS_move_int rfl) ?_
            refine WO_p (PS_eql rfl rfl) ?_
            refine WO_nil ?_
            refine thn_normal ?_
            refine W_if rfl (fun hb88 => ?_) (fun hb88 => ?_)
            · have hb88p := hb88.h; try simp only [al_ete, al_dfn, Bool.not_eq_true', Bool.not_eq_false', al_ne, Bool.not_not, al_nn] at hb88p
              skip
              refine W_drawE [false, true, false, false, false, false, false, true, false, true, false, false, false, false, false] hmix (by kernel_rfl) rfl ?_
              refine WH_loadA _ Hvac.isAgg61 Hvac.sizeOf61 rfl (Hb.h (by repeat (first | assumption | exact Hb.newY _ _ | refine Hb.alloc ?_ | refine Hb.drew ?_ | refine Hb.ext (by assumption) ?_ | exact Hb.setSameL (by first | omega | (simp only [size_alloc, size_setB, size_drew]; omega)) | exact Hb.setSame (by assumption) | refine Hb.set (by first | omega | (simp only [size_alloc, size_setB, size_drew]; omega)) ?_ ))) (by first | omega | assumption | rfl | decide | exact Nat.le_refl _ | (simp only [size_ic, Value.cells]; omega) | (simp; omega) | simp) (Xt.h (by first | assumption | exact Xt.whole rfl rfl | exact Xt.whole rfl (by assumption) | exact Xt.whole rfl (by simp only [size_ic, Value.cells]; omega) | exact ⟨rfl⟩)) ?_
              refine WH_call Hvac.call223 (by rfl) (Ret.mono (isz_spec _ _ (hwdA _)) ?_)
              rintro _ w223_88 ⟨rfl, hE223_88⟩
              refine ⟨fun _ => (by repeat (first | assumption | exact Ext.refl _ | refine Ext.alloc ?_ _ | refine Ext.drew ?_ | refine Ext.setB ?_ (by first | omega | (simp only [size_alloc, size_setB, size_drew]; omega)) _ | exact Ext.trans (by assumption) (by assumption) | refine Ext.trans ?_ (by assumption))), ?_⟩
              have hz223_88 := hE223_88.1
              try simp only [size_alloc, size_setB, size_drew] at hz223_88
              refine WH_p (PS_move_bool rfl) rfl ?_
              refine WH_if (t := 70) rfl (fun hb91 => ?_) (fun hb91 => ?_)
              · have hb91p := hb91.h; try simp only [al_ete, al_dfn, Bool.not_eq_true', Bool.not_eq_false', al_ne, Bool.not_not, al_nn] at hb91p
                have hzz : wv (m.argW f 2) = 0 := by simpa using hb91p
                refine WH_guardF rfl rfl hb91.h ?_
                refine WH_guardF rfl rfl hb91.h ?_
                refine WH_guardF rfl rfl hb91.h ?_
                refine WH_guardF rfl rfl hb91.h ?_
                refine WH_guardF rfl rfl hb91.h ?_
                refine WH_guardF rfl rfl hb91.h ?_
                refine WH_guardF rfl rfl hb91.h ?_
                refine WH_guardF rfl rfl hb91.h ?_
                refine WH_guardF rfl rfl hb91.h ?_
                refine WH_guardF rfl rfl hb91.h ?_
                refine WH_p (PS_pickT rfl hb91.h rfl) rfl ?_
                refine WH_p (PS_assign_bool rfl) rfl ?_
                refine WH_nil ?_
                refine thn_normal ?_
                refine W_seq ?_
                refine W_seq ?_
                refine W_region rfl ?_
                refine WO_p (PS_move_bool rfl) ?_
                refine WO_p (PS_not rfl) ?_
                refine WO_nil ?_
                refine thn_normal ?_
                refine W_condF rfl (congrArg not rfl) ?_
                refine W_skip ?_
                refine thn_normal ?_
                refine W_region rfl ?_
                refine WO_p (PS_move_ptr rfl) ?_
                refine WO_p (PS_move_ptr rfl) ?_
                refine WO_p (PS_move_int rfl) ?_
                refine WO_p (PS_buildI (k := .u64) (zs := [0, 0, 0, 0]) (ps := []) (L := [0, 0, 0, 0]) Hvac.zeroValue61 Hvac.runUnderlying61 Hvac.sizeOf26 rfl rfl rfl rfl) ?_
                refine WO_call Hvac.call235 (by rfl) (Ret.mono (settle_ex C c v B m t f _ _ _ _ _ (MS.ext hM (by repeat (first | assumption | exact Ext.refl _ | refine Ext.alloc ?_ _ | refine Ext.drew ?_ | refine Ext.setB ?_ (by first | omega | (simp only [size_alloc, size_setB, size_drew]; omega)) _ | exact Ext.trans (by assumption) (by assumption) | refine Ext.trans ?_ (by assumption)))) hA (by omega) (by first | (intro _; omega) | (intro h; cases h)) (by first | assumption | exact Wd0 | exact limb_wd (by omega)) (by omega)) ?_)
                rintro _ wS ⟨hRS, hKS⟩
                have hRS2 : MRet w C B m wS v _ := MRet.trans (MStep.ext (Ext.refl w)) (MRet.pre (by repeat (first | assumption | exact Ext.refl _ | refine Ext.alloc ?_ _ | refine Ext.drew ?_ | refine Ext.setB ?_ (by first | omega | (simp only [size_alloc, size_setB, size_drew]; omega)) _ | exact Ext.trans (by assumption) (by assumption) | refine Ext.trans ?_ (by assumption))) hRS)
                have hKC := KC.pre (a := w) (by repeat (first | assumption | exact Ext.refl _ | refine Ext.alloc ?_ _ | refine Ext.drew ?_ | refine Ext.setB ?_ (by first | omega | (simp only [size_alloc, size_setB, size_drew]; omega)) _ | exact Ext.trans (by assumption) (by assumption) | refine Ext.trans ?_ (by assumption))) hKS
                have hK5 : KT 5 w wS := KC.kt hKC hblk (by decide)
                have hK28 : KT 28 w wS := KC.kt hKC hblk (by decide)
                refine WO_nil ?_
                first | refine bodyQ_ret0 Hvac.results181 ?_ | refine bodyQ_end0 Hvac.results181 ?_
                exact ⟨v, _, hRS2, (hI.settle hf hI.rw0 hvi (fun _ h => h) (Int.le_refl _) (by omega) (by first | (intro _; omega) | (intro h; cases h)) (by omega) hc).2, hRl.fin_eff2 hM hMI hf hK5 hK28 hoN (by decide) (by simp [yisj]) (fun h => absurd h (by decide)) (k := 3) (by decide) rfl rfl (by decide) (by rw [yeff_94, yargs_d (by decide), yargs_d (by decide), yargs_d (by decide), hy0, hy1, hy2, ycop0 (wn_z (hwdA 2) hzz)]) (by omega)⟩
              · have hb91p := hb91.h; try simp only [al_ete, al_dfn, Bool.not_eq_true', Bool.not_eq_false', al_ne, Bool.not_not, al_nn] at hb91p
                have hre := hAd.re (by rw [show o = 94 from by omega]; rfl)
                rw [show o = 94 from by omega] at hre
                replace hre : ((reachW (m.argW f 0) (m.argW f 2)).2 && (reachW (m.argW f 1) (m.argW f 2)).2) = true ∧ 32 * max (reachW (m.argW f 0) (m.argW f 2)).1 (reachW (m.argW f 1) (m.argW f 2)).1 ≤ szOf m.base t := hre
                have hre1 := (Bool.and_eq_true _ _).mp hre.1
                have hre2 := hre.2
                have hnz : ¬ wv (m.argW f 2) = 0 := by simpa using hb91p
                rcases reach_fit (hwdA 2) hre1.1 with hft1 | hft1
                · exact absurd hft1 hnz
                rcases reach_fit (hwdA 2) hre1.2 with hft2 | hft2
                · exact absurd hft2 hnz
                obtain ⟨bq, Lq, hbq, _⟩ := hM.buf.some (by omega)
                refine WH_guardT rfl rfl hb91.h ?_
                refine WH_p (PS_move_ptr rfl) rfl ?_
                refine WH_guardT rfl rfl hb91.h ?_
                refine WH_p (PS_nilCheck rfl) rfl ?_
                refine WH_guardT rfl rfl hb91.h ?_
                refine WH_p (PS_fieldAddr 1 Hvac.runUnderlying70 rfl Hvac.sizeOf59 rfl rfl) rfl ?_
                refine WH_guardT rfl rfl hb91.h ?_
                refine WH_loadA _ Hvac.isAgg61 Hvac.sizeOf61 rfl (Hb.h (by repeat (first | assumption | exact Hb.newY _ _ | refine Hb.alloc ?_ | refine Hb.drew ?_ | refine Hb.ext (by assumption) ?_ | exact Hb.setSameL (by first | omega | (simp only [size_alloc, size_setB, size_drew]; omega)) | exact Hb.setSame (by assumption) | refine Hb.set (by first | omega | (simp only [size_alloc, size_setB, size_drew]; omega)) ?_ ))) (by first | omega | assumption | rfl | decide | exact Nat.le_refl _ | (simp only [size_ic, Value.cells]; omega) | (simp; omega) | simp) (Xt.h (by first | assumption | exact Xt.whole rfl rfl | exact Xt.whole rfl (by assumption) | exact Xt.whole rfl (by simp only [size_ic, Value.cells]; omega) | exact ⟨rfl⟩)) ?_
                refine WH_guardT rfl rfl hb91.h ?_
                refine WH_call Hvac.call273 (by rfl) (Ret.mono (small_spec _ _ (hwdA _)) ?_)
                rintro _ w273_93 ⟨hE273_93, rfl⟩
                refine ⟨fun _ => (by repeat (first | assumption | exact Ext.refl _ | refine Ext.alloc ?_ _ | refine Ext.drew ?_ | refine Ext.setB ?_ (by first | omega | (simp only [size_alloc, size_setB, size_drew]; omega)) _ | exact Ext.trans (by assumption) (by assumption) | refine Ext.trans ?_ (by assumption))), ?_⟩
                have hz273_93 := hE273_93.1
                try simp only [size_alloc, size_setB, size_drew] at hz273_93
                try rw [small_nat (hwdA 0) (by omega)]
                try rw [small_nat (hwdA 1) (by omega)]
                try rw [small_nat (hwdA 2) (by omega)]
                try rw [small_nat (hwdA 3) (by omega)]
                refine WH_guardT rfl rfl hb91.h ?_
                refine WH_loadA _ Hvac.isAgg61 Hvac.sizeOf61 rfl (Hb.h (by repeat (first | assumption | exact Hb.newY _ _ | refine Hb.alloc ?_ | refine Hb.drew ?_ | refine Hb.ext (by assumption) ?_ | exact Hb.setSameL (by first | omega | (simp only [size_alloc, size_setB, size_drew]; omega)) | exact Hb.setSame (by assumption) | refine Hb.set (by first | omega | (simp only [size_alloc, size_setB, size_drew]; omega)) ?_ ))) (by first | omega | assumption | rfl | decide | exact Nat.le_refl _ | (simp only [size_ic, Value.cells]; omega) | (simp; omega) | simp) (Xt.h (by first | assumption | exact Xt.whole rfl rfl | exact Xt.whole rfl (by assumption) | exact Xt.whole rfl (by simp only [size_ic, Value.cells]; omega) | exact ⟨rfl⟩)) ?_
                refine WH_guardT rfl rfl hb91.h ?_
                refine WH_call Hvac.call273 (by rfl) (Ret.mono (small_spec _ _ (hwdA _)) ?_)
                rintro _ w273_94 ⟨hE273_94, rfl⟩
                refine ⟨fun _ => (by repeat (first | assumption | exact Ext.refl _ | refine Ext.alloc ?_ _ | refine Ext.drew ?_ | refine Ext.setB ?_ (by first | omega | (simp only [size_alloc, size_setB, size_drew]; omega)) _ | exact Ext.trans (by assumption) (by assumption) | refine Ext.trans ?_ (by assumption))), ?_⟩
                have hz273_94 := hE273_94.1
                try simp only [size_alloc, size_setB, size_drew] at hz273_94
                try rw [small_nat (hwdA 0) (by omega)]
                try rw [small_nat (hwdA 1) (by omega)]
                try rw [small_nat (hwdA 2) (by omega)]
                try rw [small_nat (hwdA 3) (by omega)]
                refine WH_guardT rfl rfl hb91.h ?_
                refine WH_loadA _ Hvac.isAgg61 Hvac.sizeOf61 rfl (Hb.h (by repeat (first | assumption | exact Hb.newY _ _ | refine Hb.alloc ?_ | refine Hb.drew ?_ | refine Hb.ext (by assumption) ?_ | exact Hb.setSameL (by first | omega | (simp only [size_alloc, size_setB, size_drew]; omega)) | exact Hb.setSame (by assumption) | refine Hb.set (by first | omega | (simp only [size_alloc, size_setB, size_drew]; omega)) ?_ ))) (by first | omega | assumption | rfl | decide | exact Nat.le_refl _ | (simp only [size_ic, Value.cells]; omega) | (simp; omega) | simp) (Xt.h (by first | assumption | exact Xt.whole rfl rfl | exact Xt.whole rfl (by assumption) | exact Xt.whole rfl (by simp only [size_ic, Value.cells]; omega) | exact ⟨rfl⟩)) ?_
                refine WH_guardT rfl rfl hb91.h ?_
                refine WH_call Hvac.call273 (by rfl) (Ret.mono (small_spec _ _ (hwdA _)) ?_)
                rintro _ w273_95 ⟨hE273_95, rfl⟩
                refine ⟨(fun h => by cases h), ?_⟩
                have hz273_95 := hE273_95.1
                try simp only [size_alloc, size_setB, size_drew] at hz273_95
                try rw [small_nat (hwdA 0) (by omega)]
                try rw [small_nat (hwdA 1) (by omega)]
                try rw [small_nat (hwdA 2) (by omega)]
                try rw [small_nat (hwdA 3) (by omega)]
                refine WH_guardT rfl rfl hb91.h ?_
                refine WH_call Hvac.call272 (by rfl) (Ret.mono (memMove_ex C c v B m t lo n (wv (m.argW f 0)).toNat (wv (m.argW f 1)).toNat (wv (m.argW f 2)).toNat bq _ (MS.ext hM (by repeat (first | assumption | exact Ext.refl _ | refine Ext.alloc ?_ _ | refine Ext.drew ?_ | refine Ext.setB ?_ (by first | omega | (simp only [size_alloc, size_setB, size_drew]; omega)) _ | exact Ext.trans (by assumption) (by assumption) | refine Ext.trans ?_ (by assumption)))) Lm (BufX.ext hLm (by repeat (first | assumption | exact Ext.refl _ | refine Ext.alloc ?_ _ | refine Ext.drew ?_ | refine Ext.setB ?_ (by first | omega | (simp only [size_alloc, size_setB, size_drew]; omega)) _ | exact Ext.trans (by assumption) (by assumption) | refine Ext.trans ?_ (by assumption)))) hT hbq (by omega) (by omega) (by omega)) ?_)
                rintro _ w6 ⟨rfl, hR6, hL6⟩
                refine ⟨(fun h => by cases h), ?_⟩
                obtain ⟨c2, B2, hM2, hS2⟩ := MRet.pre (w := w) (by repeat (first | assumption | exact Ext.refl _ | refine Ext.alloc ?_ _ | refine Ext.drew ?_ | refine Ext.setB ?_ (by first | omega | (simp only [size_alloc, size_setB, size_drew]; omega)) _ | exact Ext.trans (by assumption) (by assumption) | refine Ext.trans ?_ (by assumption))) hR6
                rw [cut_mem (n := n) (by omega) (by omega), ← hmc] at hL6
                have hRw2 := Rel.write hRP hM hS2 hLm hMB htl hMI hf (by rw [ycut_len]; omega) hL6
                have hblk2 := hM2.vs.blk
                refine WH_p (PS_pickF rfl hb91.h rfl) rfl ?_
                refine WH_p (PS_assign_bool rfl) rfl ?_
                refine WH_nil ?_
                refine thn_normal ?_
                refine W_seq ?_
                refine W_seq ?_
                refine W_region rfl ?_
                refine WO_p (PS_move_bool rfl) ?_
                refine WO_p (PS_not rfl) ?_
                refine WO_nil ?_
                refine thn_normal ?_
                refine W_if rfl (fun hb100 => ?_) (fun hb100 => ?_)
                · have hb100p := hb100.h; try simp only [al_ete, al_dfn, Bool.not_eq_true', Bool.not_eq_false', al_ne, Bool.not_not, al_nn] at hb100p
                  simp at hb100p --END
                · have hb100p := hb100.h; try simp only [al_ete, al_dfn, Bool.not_eq_true', Bool.not_eq_false', al_ne, Bool.not_not, al_nn] at hb100p
                  refine W_skip ?_
                  refine thn_normal ?_
                  refine W_region rfl ?_
                  refine WO_p (PS_move_ptr rfl) ?_
                  refine WO_p (PS_move_ptr rfl) ?_
                  refine WO_p (PS_move_int rfl) ?_
                  refine WO_p (PS_buildI (k := .u64) (zs := [0, 0, 0, 0]) (ps := []) (L := [0, 0, 0, 0]) Hvac.zeroValue61 Hvac.runUnderlying61 Hvac.sizeOf26 rfl rfl rfl rfl) ?_
                  refine WO_call Hvac.call235 (by rfl) (Ret.mono (settle_ex C c2 v B2 m t f _ _ _ _ _ (MS.ext hM2 (by repeat (first | assumption | exact Ext.refl _ | refine Ext.alloc ?_ _ | refine Ext.drew ?_ | refine Ext.setB ?_ (by first | omega | (simp only [size_alloc, size_setB, size_drew]; omega)) _ | exact Ext.trans (by assumption) (by assumption) | refine Ext.trans ?_ (by assumption)))) hA (by omega) (by first | (intro _; omega) | (intro h; cases h)) (by first | assumption | exact Wd0 | exact limb_wd (by omega)) (by omega)) ?_)
                  rintro _ wS ⟨hRS, hKS⟩
                  have hRS2 : MRet w C B m wS v _ := MRet.trans hS2 (MRet.pre (by repeat (first | assumption | exact Ext.refl _ | refine Ext.alloc ?_ _ | refine Ext.drew ?_ | refine Ext.setB ?_ (by first | omega | (simp only [size_alloc, size_setB, size_drew]; omega)) _ | exact Ext.trans (by assumption) (by assumption) | refine Ext.trans ?_ (by assumption))) hRS)
                  have hKC := KC.pre (a := w6) (by repeat (first | assumption | exact Ext.refl _ | refine Ext.alloc ?_ _ | refine Ext.drew ?_ | refine Ext.setB ?_ (by first | omega | (simp only [size_alloc, size_setB, size_drew]; omega)) _ | exact Ext.trans (by assumption) (by assumption) | refine Ext.trans ?_ (by assumption))) hKS
                  have hK5 : KT 5 w6 wS := KC.kt hKC hblk2 (by decide)
                  have hK28 : KT 28 w6 wS := KC.kt hKC hblk2 (by decide)
                  refine WO_nil ?_
                  first | refine bodyQ_ret0 Hvac.results181 ?_ | refine bodyQ_end0 Hvac.results181 ?_
                  exact ⟨v, _, hRS2, (hI.settle hf hI.rw0 hvi (fun _ h => h) (Int.le_refl _) (by omega) (by first | (intro _; omega) | (intro h; cases h)) (by omega) hc).2, hRw2.fin_eff2 hM2 hMI hf hK5 hK28 hoN (by decide) (by simp [yisj]) (fun h => absurd h (by decide)) (k := 3) (by decide) rfl rfl (by decide) (by rw [yeff_94, yargs_d (by decide), yargs_d (by decide), yargs_d (by decide), hy0, hy1, hy2, ycopN (wn_nz (hwdA 2) hnz)]; rfl) (by omega)⟩
            · have hb88p := hb88.h; try simp only [al_ete, al_dfn, Bool.not_eq_true', Bool.not_eq_false', al_ne, Bool.not_not, al_nn] at hb88p
              (exfalso; omega) --END

end Go.Proofs.YgvacwGreat
