import Derived.Test.YgvacwGreatIa
namespace Go.Proofs.YgvacwGreat
set_option linter.unusedSimpArgs false
set_option linter.unusedVariables false
theorem yrefuse_le (y : PSt) (f : PF) (o : Int) : yrefuse y f o ≤ 255 := by unfold yrefuse; repeat (first | omega | split)
theorem ystepG_eq (y : PSt) (f : PF) : ystepG y f = { f with gas := f.gas - ycost y f (yopcode f), mem := (ystepG y f).mem } := by unfold ystepG; exact ygrow_eq _ _
theorem ystepG_mem {y : PSt} {f : PF} (h : NoRef y f (yopcode f)) (hmg : f.gas + ymem (f.mem.length / 32) ≤ 1048576) (hm : f.mem.length % 32 = 0) : (ystepG y f).mem.length ≤ 717280 := by
  have h9 := (ygrow_len h hmg hm).1
  have e : (ystepG y f).mem = (ygrow f (yreach f (yopcode f))).mem := by unfold ystepG ygrow; dsimp only; split <;> rfl
  rw [e]; exact h9
theorem PFB.stepG {y : PSt} {f : PF} (hP : PFB f) (h : (ystepG y f).mem.length ≤ 717280) : PFB (ystepG y f) := by
  rw [ystepG_eq]
  exact { hP with gas := Nat.le_trans (sz_mono (Nat.sub_le _ _)) hP.gas, ml := Nat.le_trans h (by decide) }
theorem ystepG_gas (y : PSt) (f : PF) : (ystepG y f).gas = f.gas - ycost y f (yopcode f) := by rw [ystepG_eq]
theorem ystepG_stack (y : PSt) (f : PF) : (ystepG y f).stack = f.stack := by rw [ystepG_eq]
theorem ystepG_pc (y : PSt) (f : PF) : (ystepG y f).pc = f.pc := by rw [ystepG_eq]
theorem ystepG_value (y : PSt) (f : PF) : (ystepG y f).value = f.value := by rw [ystepG_eq]
theorem ystepG_arg (y : PSt) (f : PF) (i : Nat) : yarg (ystepG y f) i = yarg f i := by rw [ystepG_eq]; rfl

set_option maxRecDepth 10000 in
set_option maxHeartbeats 4000000 in
theorem yStep_spec [O : Om] (w : World) (hO : OmB w) (Y : Nat → Prop) (C : Nat) (x : YSt) (y : PSt) (xs : List YFr) (rest : List PF) (f : PF) (N : Nat) (hX : YX Y w C x y xs (rest ++ [f])) (hB : PSB N y) (hN : N ≤ 99999800) (hYB : YB y) (hP : PFB f) (hPr : ∀ g ∈ rest, PFB g ∧ sz g.gas ≤ 30) (hgf : sz f.gas ≤ 30) (hrl : rest.length ≤ 800) (F : Nat) (hFp : x.frames.1 = some ⟨F, 0, none⟩) (hrz : sz y.now.ref ≤ 30) (ks : List Int → List Int) (hK : KSum ks) (hhl : y.hashes.length ≤ 1000) (hph : y.phase = 1) (hmg : f.gas + ymem (f.mem.length / 32) ≤ 1048576) (hm32 : f.mem.length % 32 = 0) (hsl : f.stack.length ≤ 1000) (hpz : sz f.pc ≤ 8) (hil : f.inputY.length ≤ 1000000) (hfv : sz f.value ≤ 32) : Ret Hvac.prog 11 #[.pointer (some ⟨C, 0, none⟩)] w fun u w' => u = .bool true ∧ YRet Y w w' C (ystep ks y rest f).1 (ystep ks y rest f).2 := by
  have hO0 := hO
  have hSb := hX.ss.blk
  have hSS := hX.ss
  have hSo := hX.ss.om
  have hSl := hSb.lt
  obtain ⟨r, xf, hxf, hFM, hMW, hYF, hlf⟩ := hX.top hFp
  have hFR := hFM.rel
  have hFC := hFM.fc
  have hFb := hFM.blk
  have hFo := hFM.om
  have hFl := hFb.lt
  have hFsz := hFC.size
  have hFS := hFM.s0
  have hk12 := hFC.self
  rw [hFR.self] at hk12
  have hsbl := hFR.sb.1
  have hzs := encYS_size x
  have hfcap := hX.frs.cap
  have hk11 : Ce (encYS x).toArray (0 + 11) (.int .u8 1) := ⟨by have h9 : (encYS x).toArray[0 + 11]? = some (.int .u8 x.phase) := rfl; rw [h9, hX.ss.rel.phase, hph]; rfl⟩
  have hk9 : Ce (encYS x).toArray (0 + 9) (.slice (some ⟨F, 0, none⟩) (rest.length + 1) x.frames.2.2) := ⟨by have h9 : (encYS x).toArray[0 + 9]? = some (.slice x.frames.1 x.frames.2.1 x.frames.2.2) := rfl; rw [h9, hlf, hFp]⟩
  have hk1 := hFC.nat
  rw [hFR.nat] at hk1
  have hnt := hP.nt
  have hk4 := hFC.gas
  have hN4 := hFR.gas
  have hgz := hP.gas
  refine Ret_of_W Hvac.func11 rfl rfl ?_
  refine W_seq ?_
  refine W_region rfl ?_
  refine WO_p (PS_assign_bool rfl) ?_
  refine WO_nil ?_
  refine thn_normal ?_
  refine W_seq ?_
  refine W_region rfl ?_
  refine WO_p (PS_move_ptr rfl) ?_
  refine WO_p (PS_nilCheck rfl) ?_
  refine WO_p (PS_fieldAddr 0 Hvac.runUnderlying101 rfl Hvac.sizeOf99 rfl rfl) ?_
  refine WO_p (PS_assign_ptr rfl) ?_
  refine WO_nil ?_
  refine thn_normal ?_
  refine W_seq ?_
  refine W_seq ?_
  refine W_region rfl ?_
  refine WO_p (PS_move_ptr rfl) ?_
  refine WO_p (PS_nilCheck rfl) ?_
  refine WO_p (PS_fieldAddr 11 Hvac.runUnderlying99 rfl Hvac.sizeOf5 rfl rfl) ?_
  refine WO_load (.int _ _) Hvac.isAgg5 rfl (Hb.h (by repeat (first | assumption | exact Hb.newY _ _ | refine Hb.alloc ?_ | refine Hb.drew ?_ | refine Hb.ext (by assumption) ?_ | exact Hb.setSameL (by first | omega | (simp only [size_alloc, size_setB, size_drew]; omega)) | exact Hb.setSame (by assumption) | refine Hb.set (by first | omega | (simp only [size_alloc, size_setB, size_drew]; omega)) ?_ ))) (Ce.h (by first | assumption | exact ⟨rfl⟩)) ?_
  refine WO_p (PS_neq rfl rfl) ?_
  refine WO_p (PS_move_bool rfl) ?_
  refine WO_if (t := 16) rfl (fun hb2 => ?_) (fun hb2 => ?_)
  · have hb2p := hb2.h; try simp only [al_ete, al_dfn, Bool.not_eq_true', Bool.not_eq_false', al_ne, Bool.not_not, al_nn] at hb2p
    exact absurd hb2.h (by decide) --END
  · have hb2p := hb2.h; try simp only [al_ete, al_dfn, Bool.not_eq_true', Bool.not_eq_false', al_ne, Bool.not_not, al_nn] at hb2p
    refine WO_guardT rfl rfl hb2.h ?_
    refine WO_p (PS_move_ptr rfl) ?_
    refine WO_guardT rfl rfl hb2.h ?_
    refine WO_p (PS_nilCheck rfl) ?_
    refine WO_guardT rfl rfl hb2.h ?_
    refine WO_p (PS_fieldAddr 9 Hvac.runUnderlying99 rfl Hvac.sizeOf97 rfl rfl) ?_
    refine WO_guardT rfl rfl hb2.h ?_
    refine WO_load (.slice _ _ _) Hvac.isAgg97 rfl (Hb.h (by repeat (first | assumption | exact Hb.newY _ _ | refine Hb.alloc ?_ | refine Hb.drew ?_ | refine Hb.ext (by assumption) ?_ | exact Hb.setSameL (by first | omega | (simp only [size_alloc, size_setB, size_drew]; omega)) | exact Hb.setSame (by assumption) | refine Hb.set (by first | omega | (simp only [size_alloc, size_setB, size_drew]; omega)) ?_ ))) (Ce.h (by first | assumption | exact ⟨rfl⟩)) ?_
    refine WO_guardT rfl rfl hb2.h ?_
    refine WO_p (PS_lenS Hvac.runUnderlying97 rfl) ?_
    refine WO_guardT rfl rfl hb2.h ?_
    refine WO_p (PS_eql rfl rfl) ?_
    refine WO_p (PS_pickF rfl hb2.h rfl) ?_
    refine WO_nil ?_
    refine thn_normal ?_
    refine W_if rfl (fun hb4 => ?_) (fun hb4 => ?_)
    · have hb4p := hb4.h; try simp only [al_ete, al_dfn, Bool.not_eq_true', Bool.not_eq_false', al_ne, Bool.not_not, al_nn] at hb4p
      exfalso; omega --END
    · have hb4p := hb4.h; try simp only [al_ete, al_dfn, Bool.not_eq_true', Bool.not_eq_false', al_ne, Bool.not_not, al_nn] at hb4p
      refine W_skip ?_
      refine thn_normal ?_
      refine W_seq ?_
      refine W_drawE [false, false, false, false, false, false, false, false, false, false, false, false] hmix (by kernel_rfl) rfl ?_
      refine WH_p (PS_move_ptr rfl) rfl ?_
      refine WH_p (PS_nilCheck rfl) rfl ?_
      refine WH_p (PS_fieldAddr 9 Hvac.runUnderlying99 rfl Hvac.sizeOf97 rfl rfl) rfl ?_
      refine WH_load (.slice _ _ _) Hvac.isAgg97 rfl (Hb.h (by repeat (first | assumption | exact Hb.newY _ _ | refine Hb.alloc ?_ | refine Hb.drew ?_ | refine Hb.ext (by assumption) ?_ | exact Hb.setSameL (by first | omega | (simp only [size_alloc, size_setB, size_drew]; omega)) | exact Hb.setSame (by assumption) | refine Hb.set (by first | omega | (simp only [size_alloc, size_setB, size_drew]; omega)) ?_ ))) (Ce.h (by first | assumption | exact ⟨rfl⟩)) ?_
      refine WH_p (PS_move_ptr rfl) rfl ?_
      refine WH_p (PS_nilCheck rfl) rfl ?_
      refine WH_p (PS_fieldAddr 9 Hvac.runUnderlying99 rfl Hvac.sizeOf97 rfl rfl) rfl ?_
      refine WH_load (.slice _ _ _) Hvac.isAgg97 rfl (Hb.h (by repeat (first | assumption | exact Hb.newY _ _ | refine Hb.alloc ?_ | refine Hb.drew ?_ | refine Hb.ext (by assumption) ?_ | exact Hb.setSameL (by first | omega | (simp only [size_alloc, size_setB, size_drew]; omega)) | exact Hb.setSame (by assumption) | refine Hb.set (by first | omega | (simp only [size_alloc, size_setB, size_drew]; omega)) ?_ ))) (Ce.h (by first | assumption | exact ⟨rfl⟩)) ?_
      refine WH_p (PS_lenS Hvac.runUnderlying97 rfl) rfl ?_
      refine WH_p (PS_sub_i64n rfl rfl (by omega) (by omega)) rfl ?_
      refine WH_p (PS_indexS Hvac.runUnderlying97 Hvac.sizeOf121 rfl rfl (by omega) (by omega)) rfl ?_
      rw [show 0 + (((rest.length + 1 : Nat) : Int) - 1).toNat * 60 = rest.length * 60 by omega]
      refine WH_p (PS_assign_ptr rfl) rfl ?_
      refine WH_nil ?_
      refine thn_normal ?_
      refine W_seq ?_
      refine W_seq ?_
      refine W_region rfl ?_
      refine WO_p (PS_move_ptr rfl) ?_
      refine WO_p (PS_nilCheck rfl) ?_
      refine WO_p (PS_fieldAddr 1 Hvac.runUnderlying121 rfl Hvac.sizeOf5 rfl rfl) ?_
      refine WO_load (.int _ _) Hvac.isAgg5 rfl (Hb.h (by repeat (first | assumption | exact Hb.newY _ _ | refine Hb.alloc ?_ | refine Hb.drew ?_ | refine Hb.ext (by assumption) ?_ | exact Hb.setSameL (by first | omega | (simp only [size_alloc, size_setB, size_drew]; omega)) | exact Hb.setSame (by assumption) | refine Hb.set (by first | omega | (simp only [size_alloc, size_setB, size_drew]; omega)) ?_ ))) (Ce.h (by first | assumption | exact ⟨rfl⟩)) ?_
      refine WO_p (PS_neq rfl rfl) ?_
      refine WO_nil ?_
      refine thn_normal ?_
      refine W_if rfl (fun hb6 => ?_) (fun hb6 => ?_)
      · have hb6p := hb6.h; try simp only [al_ete, al_dfn, Bool.not_eq_true', Bool.not_eq_false', al_ne, Bool.not_not, al_nn] at hb6p
        have hq : f.nat ≠ 0 := by omega
        refine W_seq ?_
        refine W_region rfl ?_
        refine WO_p (PS_move_ptr rfl) ?_
        refine WO_p (PS_move_ptr rfl) ?_
        refine WO_call Hvac.call40 (by rfl) (Ret.mono (yNative_spec _ (OmB.ext hO (by repeat (first | assumption | exact Ext.refl _ | refine Ext.alloc ?_ _ | refine Ext.drew ?_ | refine Ext.setB ?_ (by first | omega | (simp only [size_alloc, size_setB, size_drew]; omega)) _ | exact Ext.trans (by assumption) (by assumption) | refine Ext.trans ?_ (by assumption)))) Y C _ _ _ _ _ N (YX.ext hX (by repeat (first | assumption | exact Ext.refl _ | refine Ext.alloc ?_ _ | refine Ext.drew ?_ | refine Ext.setB ?_ (by first | omega | (simp only [size_alloc, size_setB, size_drew]; omega)) _ | exact Ext.trans (by assumption) (by assumption) | refine Ext.trans ?_ (by assumption)))) hB hN hYB hP hPr hgf hrl F hFp hil) ?_)
        rintro _ w9 ⟨rfl, hY9⟩
        refine WO_nil ?_
        refine thn_normal ?_
        refine W_seq ?_
        refine W_region rfl ?_
        refine WO_p (PS_assign_bool rfl) ?_
        refine WO_nil ?_
        refine thn_normal ?_
        refine W_ret ?_
        refine thn_ret ?_
        refine bodyQ_ret1 Hvac.results11 rfl (.bool _) rfl ?_
        have e9 : ystep ks y rest f = ynative_ y rest f := (by unfold ystep; rw [if_pos hq]); rw [e9]; exact ⟨rfl, YRet.pre (Ext.keepO (by repeat (first | assumption | exact Ext.refl _ | refine Ext.alloc ?_ _ | refine Ext.drew ?_ | refine Ext.setB ?_ (by first | omega | (simp only [size_alloc, size_setB, size_drew]; omega)) _ | refine Ext.trans ?_ (by assumption))) _) hY9⟩
      · have hb6p := hb6.h; try simp only [al_ete, al_dfn, Bool.not_eq_true', Bool.not_eq_false', al_ne, Bool.not_not, al_nn] at hb6p
        have hq : ¬ f.nat ≠ 0 := by omega
        refine W_skip ?_
        refine thn_normal ?_
        refine W_seq ?_
        refine W_region rfl ?_
        refine WO_p (PS_move_ptr rfl) ?_
        refine WO_call Hvac.call41 (by rfl) (Ret.mono (yOpcode_spec _ (OmB.ext hO (by repeat (first | assumption | exact Ext.refl _ | refine Ext.alloc ?_ _ | refine Ext.drew ?_ | refine Ext.setB ?_ (by first | omega | (simp only [size_alloc, size_setB, size_drew]; omega)) _ | exact Ext.trans (by assumption) (by assumption) | refine Ext.trans ?_ (by assumption)))) _ _ _ _ (by first | assumption | exact FrS.ext (by assumption) (by repeat (first | assumption | exact Ext.refl _ | refine Ext.alloc ?_ _ | refine Ext.drew ?_ | refine Ext.setB ?_ (by first | omega | (simp only [size_alloc, size_setB, size_drew]; omega)) _ | exact Ext.trans (by assumption) (by assumption) | refine Ext.trans ?_ (by assumption)))) hP) ?_)
        rintro _ w41_7 ⟨hE41_7, rfl, ho1, ho2⟩
        have hz41_7 := hE41_7.1
        try simp only [size_alloc, size_setB, size_drew] at hz41_7
        refine WO_p (PS_assign_int rfl) ?_
        refine WO_nil ?_
        refine thn_normal ?_
        refine W_seq ?_
        refine W_region rfl ?_
        refine WO_p (PS_move_ptr rfl) ?_
        refine WO_p (PS_move_ptr rfl) ?_
        refine WO_p (PS_move_int rfl) ?_
        refine WO_call Hvac.call42 (by rfl) (Ret.mono (yRefusal_spec _ (OmB.ext hO (by repeat (first | assumption | exact Ext.refl _ | refine Ext.alloc ?_ _ | refine Ext.drew ?_ | refine Ext.setB ?_ (by first | omega | (simp only [size_alloc, size_setB, size_drew]; omega)) _ | exact Ext.trans (by assumption) (by assumption) | refine Ext.trans ?_ (by assumption)))) _ _ _ N (by first | assumption | exact YSS.ext (by assumption) (by repeat (first | assumption | exact Ext.refl _ | refine Ext.alloc ?_ _ | refine Ext.drew ?_ | refine Ext.setB ?_ (by first | omega | (simp only [size_alloc, size_setB, size_drew]; omega)) _ | exact Ext.trans (by assumption) (by assumption) | refine Ext.trans ?_ (by assumption)))) hB (by omega) _ _ _ _ (by first | assumption | exact FrS.ext (by assumption) (by repeat (first | assumption | exact Ext.refl _ | refine Ext.alloc ?_ _ | refine Ext.drew ?_ | refine Ext.setB ?_ (by first | omega | (simp only [size_alloc, size_setB, size_drew]; omega)) _ | exact Ext.trans (by assumption) (by assumption) | refine Ext.trans ?_ (by assumption)))) hP _ ⟨ho1, ho2⟩) ?_)
        rintro _ w42_8 ⟨hE42_8, s42, rfl, hN42⟩
        have hz42_8 := hE42_8.1
        try simp only [size_alloc, size_setB, size_drew] at hz42_8
        refine WO_p (PS_move_tuple rfl) ?_
        refine WO_p (PS_extract_int rfl rfl) ?_
        refine WO_p (PS_extract_slice rfl rfl) ?_
        refine WO_p (PS_assign_int rfl) ?_
        refine WO_p (PS_assign_slice rfl) ?_
        refine WO_nil ?_
        refine thn_normal ?_
        refine W_seq ?_
        refine W_seq ?_
        refine W_region rfl ?_
        refine WO_p (PS_move_int rfl) ?_
        refine WO_p (PS_neq rfl rfl) ?_
        refine WO_nil ?_
        refine thn_normal ?_
        refine W_if rfl (fun hb11 => ?_) (fun hb11 => ?_)
        · have hb11p := hb11.h; try simp only [al_ete, al_dfn, Bool.not_eq_true', Bool.not_eq_false', al_ne, Bool.not_not, al_nn] at hb11p
          have hq2 : yrefuse y f (yopcode f) ≠ 0 := by omega
          refine W_seq ?_
          refine W_region rfl ?_
          refine WO_p (PS_move_ptr rfl) ?_
          refine WO_p (PS_move_int rfl) ?_
          refine WO_call Hvac.call43 (by rfl) (Ret.mono (yLeave_spec _ (OmB.ext hO (by repeat (first | assumption | exact Ext.refl _ | refine Ext.alloc ?_ _ | refine Ext.drew ?_ | refine Ext.setB ?_ (by first | omega | (simp only [size_alloc, size_setB, size_drew]; omega)) _ | exact Ext.trans (by assumption) (by assumption) | refine Ext.trans ?_ (by assumption)))) Y C _ _ _ _ _ N (YX.ext hX (by repeat (first | assumption | exact Ext.refl _ | refine Ext.alloc ?_ _ | refine Ext.drew ?_ | refine Ext.setB ?_ (by first | omega | (simp only [size_alloc, size_setB, size_drew]; omega)) _ | exact Ext.trans (by assumption) (by assumption) | refine Ext.trans ?_ (by assumption)))) hB (by omega) hP hPr hgf (by omega) (yrefuse y f (yopcode f)) (yrefuse_le _ _ _) _ _ _ _ (PB.nil _) (by omega)) ?_)
          rintro _ w9 ⟨rfl, hY9⟩
          refine WO_nil ?_
          refine thn_normal ?_
          refine W_seq ?_
          refine W_region rfl ?_
          refine WO_p (PS_assign_bool rfl) ?_
          refine WO_nil ?_
          refine thn_normal ?_
          refine W_ret ?_
          refine thn_ret ?_
          refine bodyQ_ret1 Hvac.results11 rfl (.bool _) rfl ?_
          have e9 : ystep ks y rest f = yleave y rest f (yrefuse y f (yopcode f)) [] := (by unfold ystep; rw [if_neg hq, if_pos hq2]); rw [e9]; exact ⟨rfl, YRet.pre (Ext.keepO (by repeat (first | assumption | exact Ext.refl _ | refine Ext.alloc ?_ _ | refine Ext.drew ?_ | refine Ext.setB ?_ (by first | omega | (simp only [size_alloc, size_setB, size_drew]; omega)) _ | refine Ext.trans ?_ (by assumption))) _) hY9⟩
        · have hb11p := hb11.h; try simp only [al_ete, al_dfn, Bool.not_eq_true', Bool.not_eq_false', al_ne, Bool.not_not, al_nn] at hb11p
          have hq2 : ¬ yrefuse y f (yopcode f) ≠ 0 := by omega
          have hr0 : yrefuse y f (yopcode f) = 0 := by omega
          have hNR := noRef hr0
          have hNc := hN42 hr0
          have hzc := sz_ycost (y := y) hP (yopcode f) ⟨ho1, ho2⟩
          obtain ⟨hrc1, hrc2, hrc3⟩ := hNR.reach hmg
          refine W_skip ?_
          refine thn_normal ?_
          refine W_seq ?_
          refine W_region rfl ?_
          refine WO_p (PS_move_ptr rfl) ?_
          refine WO_p (PS_move_ptr rfl) ?_
          refine WO_p (PS_nilCheck rfl) ?_
          refine WO_p (PS_fieldAddr 4 Hvac.runUnderlying121 rfl Hvac.sizeOf92 rfl rfl) ?_
          refine WO_load (.slice _ _ _) Hvac.isAgg92 rfl (Hb.h (by repeat (first | assumption | exact Hb.newY _ _ | refine Hb.alloc ?_ | refine Hb.drew ?_ | refine Hb.ext (by assumption) ?_ | exact Hb.setSameL (by first | omega | (simp only [size_alloc, size_setB, size_drew]; omega)) | exact Hb.setSame (by assumption) | refine Hb.set (by first | omega | (simp only [size_alloc, size_setB, size_drew]; omega)) ?_ ))) (Ce.h (by first | assumption | exact ⟨rfl⟩)) ?_
          refine WO_p (PS_move_slice rfl) ?_
          refine WO_call Hvac.call20 (by rfl) (Ret.mono (less_spec _ (OmB.ext hO (by repeat (first | assumption | exact Ext.refl _ | refine Ext.alloc ?_ _ | refine Ext.drew ?_ | refine Ext.setB ?_ (by first | omega | (simp only [size_alloc, size_setB, size_drew]; omega)) _ | exact Ext.trans (by assumption) (by assumption) | refine Ext.trans ?_ (by assumption)))) _ _ _ _ (by first | exact NN.nil _ | assumption | exact NN.ext (by assumption) (by repeat (first | assumption | exact Ext.refl _ | refine Ext.alloc ?_ _ | refine Ext.drew ?_ | refine Ext.setB ?_ (by first | omega | (simp only [size_alloc, size_setB, size_drew]; omega)) _ | exact Ext.trans (by assumption) (by assumption) | refine Ext.trans ?_ (by assumption)))) (by first | assumption | omega | (rw [sz_zero]; omega)) _ _ _ _ (by first | exact NN.nil _ | assumption | exact NN.ext (by assumption) (by repeat (first | assumption | exact Ext.refl _ | refine Ext.alloc ?_ _ | refine Ext.drew ?_ | refine Ext.setB ?_ (by first | omega | (simp only [size_alloc, size_setB, size_drew]; omega)) _ | exact Ext.trans (by assumption) (by assumption) | refine Ext.trans ?_ (by assumption)))) (by first | assumption | omega | (rw [sz_zero]; omega))) ?_)
          rintro _ w20_12 ⟨hE20_12, s63, rfl, hN63⟩
          have hz20_12 := hE20_12.1
          try simp only [size_alloc, size_setB, size_drew] at hz20_12
          refine WO_p (PS_nilCheck rfl) ?_
          refine WO_p (PS_fieldAddr 4 Hvac.runUnderlying121 rfl Hvac.sizeOf92 rfl rfl) ?_
          refine WO_store1 Hvac.sizeOf92 rfl (v := (.slice _ _ _)) rfl (Hb.h (by repeat (first | assumption | exact Hb.newY _ _ | refine Hb.alloc ?_ | refine Hb.drew ?_ | refine Hb.ext (by assumption) ?_ | exact Hb.setSameL (by first | omega | (simp only [size_alloc, size_setB, size_drew]; omega)) | exact Hb.setSame (by assumption) | refine Hb.set (by first | omega | (simp only [size_alloc, size_setB, size_drew]; omega)) ?_ ))) rfl (by first | omega | assumption | rfl | decide | exact Nat.le_refl _ | (simp only [size_ic, Value.cells]; omega) | (simp [encWs]; done) | (simp; omega) | simp | exact encYA_sz (by assumption) | exact encYT_sz (by assumption) | exact encYM_sz (by assumption)) rfl ?_
          refine WO_nil ?_
          refine thn_normal ?_
          refine W_seq ?_
          refine W_gen fun w13 hw13 => ?_
          have hS13 := FStep.put (f' := { f with gas := f.gas - ycost y f (yopcode f) }) hw13 hFM (by repeat (first | assumption | exact Ext.refl _ | refine Ext.alloc ?_ _ | refine Ext.drew ?_ | refine Ext.setB ?_ (by first | omega | (simp only [size_alloc, size_setB, size_drew]; omega)) _ | refine Ext.trans ?_ (by assumption))) (hFC.gas_ s63) (FrR.sGas (FrR.ext hFM.rel (by repeat (first | assumption | exact Ext.refl _ | refine Ext.alloc ?_ _ | refine Ext.drew ?_ | refine Ext.setB ?_ (by first | omega | (simp only [size_alloc, size_setB, size_drew]; omega)) _ | refine Ext.trans ?_ (by assumption)))) (by first | exact NN.nil _ | assumption | exact NN.ext (by assumption) (by repeat (first | assumption | exact Ext.refl _ | refine Ext.alloc ?_ _ | refine Ext.drew ?_ | refine Ext.setB ?_ (by first | omega | (simp only [size_alloc, size_setB, size_drew]; omega)) _ | refine Ext.trans ?_ (by assumption)))))
          have hF13 := hS13.m hFo
          have hKO13 := hS13.ko hFo
          replace hO := hO.keep hKO13
          have hFb13 := hF13.blk
          have hFC13 := hF13.fc
          have hFR13 := hF13.rel
          have hFl13 := hFb13.lt
          have hFsz13 := hFC13.size
          clear hw13
          have hX13 := hX.ftop (o := 0) hFp hxf hFM hS13 rfl rfl
          have hK13 : KeepO Y w w13 := KeepO.mono hS13.keep (fun b e => e ▸ hYF)
          have hz13 := hKO13.sz
          have hFS13 := hF13.s0
          have hP13 : PFB { f with gas := f.gas - ycost y f (yopcode f) } := { hP with gas := Nat.le_trans (sz_mono (Nat.sub_le _ _)) hP.gas }
          have hzr : sz (yreach f (yopcode f)) ≤ 8 := sz64 (by omega)
          refine W_region rfl ?_
          refine WO_p (PS_move_ptr rfl) ?_
          refine WO_p (PS_move_ptr rfl) ?_
          refine WO_p (PS_move_int rfl) ?_
          refine WO_call Hvac.call45 (by rfl) (Ret.mono (yReach_spec _ (OmB.ext hO (by repeat (first | assumption | exact Ext.refl _ | refine Ext.alloc ?_ _ | refine Ext.drew ?_ | refine Ext.setB ?_ (by first | omega | (simp only [size_alloc, size_setB, size_drew]; omega)) _ | exact Ext.trans (by assumption) (by assumption) | refine Ext.trans ?_ (by assumption)))) _ _ _ _ (by first | assumption | exact FrS.ext (by assumption) (by repeat (first | assumption | exact Ext.refl _ | refine Ext.alloc ?_ _ | refine Ext.drew ?_ | refine Ext.setB ?_ (by first | omega | (simp only [size_alloc, size_setB, size_drew]; omega)) _ | exact Ext.trans (by assumption) (by assumption) | refine Ext.trans ?_ (by assumption)))) hP13 _ ⟨ho1, ho2⟩) ?_)
          rintro _ w45_13 ⟨hE45_13, s69, rfl, hN69⟩
          have hz45_13 := hE45_13.1
          try simp only [size_alloc, size_setB, size_drew] at hz45_13
          replace hN69 : NN w45_13 s69 (yreach f (yopcode f)) := hN69
          refine WO_call Hvac.call44 (by rfl) (Ret.mono (yGrowX _ (OmB.ext hO (by repeat (first | assumption | exact Ext.refl _ | refine Ext.alloc ?_ _ | refine Ext.drew ?_ | refine Ext.setB ?_ (by first | omega | (simp only [size_alloc, size_setB, size_drew]; omega)) _ | exact Ext.trans (by assumption) (by assumption) | refine Ext.trans ?_ (by assumption)))) Y C _ _ _ rest _ (YX.ext hX13 (by repeat (first | assumption | exact Ext.refl _ | refine Ext.alloc ?_ _ | refine Ext.drew ?_ | refine Ext.setB ?_ (by first | omega | (simp only [size_alloc, size_setB, size_drew]; omega)) _ | exact Ext.trans (by assumption) (by assumption) | refine Ext.trans ?_ (by assumption)))) hP13 F hFp _ _ _ _ (by first | exact NN.nil _ | assumption | exact NN.ext (by assumption) (by repeat (first | assumption | exact Ext.refl _ | refine Ext.alloc ?_ _ | refine Ext.drew ?_ | refine Ext.setB ?_ (by first | omega | (simp only [size_alloc, size_setB, size_drew]; omega)) _ | exact Ext.trans (by assumption) (by assumption) | refine Ext.trans ?_ (by assumption)))) (by first | assumption | omega | (rw [sz_zero]; omega)) (by omega)) ?_)
          rintro _ w14 ⟨rfl, O2, Y2, xs14, hG0, hK140, hX140⟩
          have hG : YG w O Y O2 Y2 := YG.trans (YG.refl w O Y) hG0 (by omega)
          have hK14 : KeepO Y w w14 := (hK13.extR (by repeat (first | assumption | exact Ext.refl _ | refine Ext.alloc ?_ _ | refine Ext.drew ?_ | refine Ext.setB ?_ (by first | omega | (simp only [size_alloc, size_setB, size_drew]; omega)) _ | refine Ext.trans ?_ (by assumption)))).trans hK140 (fun _ _ e => e)
          have hX14 : YX Y2 w14 C x y xs14 (rest ++ [ystepG y f]) := hX140
          clear hG0 hK140 hX140
          replace hO := hX14.omb
          obtain ⟨r14, xf14, hxf14, hFM14, hMW14, hYF14, hlf14⟩ := hX14.top hFp
          have hFb14 := hFM14.blk
          have hFl14 := hFb14.lt
          have hSb14 := hX14.ss.blk
          have hSl14 := hSb14.lt
          have hS14 := hFM14.s0
          have hSS14 := hX14.ss
          have hz14 := hK14.sz
          have hm14 := ystepG_mem hNR hmg hm32
          have hP14 : PFB (ystepG y f) := hP.stepG hm14
          have hgf14 : sz (ystepG y f).gas ≤ 30 := by rw [ystepG_gas]; exact Nat.le_trans (sz_mono (Nat.sub_le _ _)) hgf
          have hst14 : (ytakes (yopcode f)).toNat ≤ (ystepG y f).stack.length := by rw [ystepG_stack]; have := hNR.tk; omega
          have hsl14 : (ystepG y f).stack.length ≤ 1000 := by rw [ystepG_stack]; exact hsl
          have hpz14 : sz (ystepG y f).pc ≤ 8 := by rw [ystepG_pc]; exact hpz
          have hfv14 : sz (ystepG y f).value ≤ 32 := by rw [ystepG_value]; exact hfv
          have ha14 := ystepG_arg y f
          refine WO_nil ?_
          refine thn_normal ?_
          refine W_seq ?_
          refine W_block ?_
          refine W_seq ?_
          refine W_region rfl ?_
          refine WO_p (PS_move_int rfl) ?_
          refine WO_p (PS_eql rfl rfl) ?_
          refine WO_p (PS_assign_bool rfl) ?_
          refine WO_nil ?_
          refine thn_normal ?_
          refine W_if rfl (fun hb17 => ?_) (fun hb17 => ?_)
          · have hb17p := hb17.h; try simp only [al_ete, al_dfn, Bool.not_eq_true', Bool.not_eq_false', al_ne, Bool.not_not, al_nn] at hb17p
            have ho9 : yopcode f = 0 := by omega
            refine W_region rfl ?_
            refine WO_p (PS_move_ptr rfl) ?_
            refine WO_call Hvac.call43 (by rfl) (Ret.mono (yLeave_spec _ (OmB.ext hO (by repeat (first | assumption | exact Ext.refl _ | refine Ext.alloc ?_ _ | refine Ext.drew ?_ | refine Ext.setB ?_ (by first | omega | (simp only [size_alloc, size_setB, size_drew]; omega)) _ | exact Ext.trans (by assumption) (by assumption) | refine Ext.trans ?_ (by assumption)))) Y2 C _ _ _ _ _ N (YX.ext hX14 (by repeat (first | assumption | exact Ext.refl _ | refine Ext.alloc ?_ _ | refine Ext.drew ?_ | refine Ext.setB ?_ (by first | omega | (simp only [size_alloc, size_setB, size_drew]; omega)) _ | exact Ext.trans (by assumption) (by assumption) | refine Ext.trans ?_ (by assumption)))) hB (by omega) hP14 hPr hgf14 (by omega) 0 (by omega) _ _ _ _ (PB.nil _) (by omega)) ?_)
            rintro _ w9 ⟨rfl, hY9⟩
            refine WO_nil ?_
            refine inBlk_normal ?_
            refine thn_normal ?_
            refine W_seq ?_
            refine W_region rfl ?_
            refine WO_p (PS_assign_bool rfl) ?_
            refine WO_nil ?_
            refine thn_normal ?_
            refine W_ret ?_
            refine bodyQ_ret1 Hvac.results11 rfl (.bool _) rfl ?_
            have e9 : ystep ks y rest f = yleave y rest (ystepG y f) 0 [] := (by unfold ystep; rw [if_neg hq, if_neg hq2, if_pos ho9]); rw [e9]; exact ⟨rfl, YRet.pre2 hG hK14 (@YRet.pre O2 _ _ _ _ _ _ _ (Ext.keepO (by repeat (first | assumption | exact Ext.refl _ | refine Ext.alloc ?_ _ | refine Ext.drew ?_ | refine Ext.setB ?_ (by first | omega | (simp only [size_alloc, size_setB, size_drew]; omega)) _ | refine Ext.trans ?_ (by assumption))) _) hY9)⟩
          · have hb17p := hb17.h; try simp only [al_ete, al_dfn, Bool.not_eq_true', Bool.not_eq_false', al_ne, Bool.not_not, al_nn] at hb17p
            have hn0 : ¬ yopcode f = 0 := by omega
            refine W_seq ?_
            refine W_region rfl ?_
            refine WO_p (PS_move_int rfl) ?_
            refine WO_p (PS_eql rfl rfl) ?_
            refine WO_p (PS_assign_bool rfl) ?_
            refine WO_nil ?_
            refine thn_normal ?_
            refine W_if rfl (fun hb20 => ?_) (fun hb20 => ?_)
            · have hb20p := hb20.h; try simp only [al_ete, al_dfn, Bool.not_eq_true', Bool.not_eq_false', al_ne, Bool.not_not, al_nn] at hb20p
              have ho9 : yopcode f = 243 := by omega
              have hla : yarg (ystepG y f) 1 ≤ 717280 := by rw [ha14]; exact len_a hrc3 (by omega)
              refine W_region rfl ?_
              refine WO_p (PS_move_ptr rfl) ?_
              refine WO_p (PS_move_ptr rfl) ?_
              refine WO_p (PS_move_ptr rfl) ?_
              refine WO_call Hvac.call47 (by rfl) (Ret.mono (yArg_spec _ (OmB.ext hO (by repeat (first | assumption | exact Ext.refl _ | refine Ext.alloc ?_ _ | refine Ext.drew ?_ | refine Ext.setB ?_ (by first | omega | (simp only [size_alloc, size_setB, size_drew]; omega)) _ | exact Ext.trans (by assumption) (by assumption) | refine Ext.trans ?_ (by assumption)))) _ _ _ _ (by first | assumption | exact FrS.ext (by assumption) (by repeat (first | assumption | exact Ext.refl _ | refine Ext.alloc ?_ _ | refine Ext.drew ?_ | refine Ext.setB ?_ (by first | omega | (simp only [size_alloc, size_setB, size_drew]; omega)) _ | exact Ext.trans (by assumption) (by assumption) | refine Ext.trans ?_ (by assumption)))) hP14 _ (by decide)) ?_)
              rintro _ w47_20 ⟨hE47_20, s47_20, rfl, hN47_20, hs47_20⟩
              have hz47_20 := hE47_20.1
              try simp only [size_alloc, size_setB, size_drew] at hz47_20
              refine WO_p (PS_move_ptr rfl) ?_
              refine WO_call Hvac.call47 (by rfl) (Ret.mono (yArg_spec _ (OmB.ext hO (by repeat (first | assumption | exact Ext.refl _ | refine Ext.alloc ?_ _ | refine Ext.drew ?_ | refine Ext.setB ?_ (by first | omega | (simp only [size_alloc, size_setB, size_drew]; omega)) _ | exact Ext.trans (by assumption) (by assumption) | refine Ext.trans ?_ (by assumption)))) _ _ _ _ (by first | assumption | exact FrS.ext (by assumption) (by repeat (first | assumption | exact Ext.refl _ | refine Ext.alloc ?_ _ | refine Ext.drew ?_ | refine Ext.setB ?_ (by first | omega | (simp only [size_alloc, size_setB, size_drew]; omega)) _ | exact Ext.trans (by assumption) (by assumption) | refine Ext.trans ?_ (by assumption)))) hP14 _ (by decide)) ?_)
              rintro _ w47_21 ⟨hE47_21, s47_21, rfl, hN47_21, hs47_21⟩
              have hz47_21 := hE47_21.1
              try simp only [size_alloc, size_setB, size_drew] at hz47_21
              refine WO_call Hvac.call46 (by rfl) (Ret.mono (yRead_spec _ (OmB.ext hO (by repeat (first | assumption | exact Ext.refl _ | refine Ext.alloc ?_ _ | refine Ext.drew ?_ | refine Ext.setB ?_ (by first | omega | (simp only [size_alloc, size_setB, size_drew]; omega)) _ | exact Ext.trans (by assumption) (by assumption) | refine Ext.trans ?_ (by assumption)))) _ _ _ _ (by first | assumption | exact FrS.ext (by assumption) (by repeat (first | assumption | exact Ext.refl _ | refine Ext.alloc ?_ _ | refine Ext.drew ?_ | refine Ext.setB ?_ (by first | omega | (simp only [size_alloc, size_setB, size_drew]; omega)) _ | exact Ext.trans (by assumption) (by assumption) | refine Ext.trans ?_ (by assumption)))) hP14 _ _ _ _ (by first | exact NN.nil _ | assumption | exact NN.ext (by assumption) (by repeat (first | assumption | exact Ext.refl _ | refine Ext.alloc ?_ _ | refine Ext.drew ?_ | refine Ext.setB ?_ (by first | omega | (simp only [size_alloc, size_setB, size_drew]; omega)) _ | exact Ext.trans (by assumption) (by assumption) | refine Ext.trans ?_ (by assumption)))) (by first | assumption | omega | (rw [sz_zero]; omega)) _ _ _ _ (by first | exact NN.nil _ | assumption | exact NN.ext (by assumption) (by repeat (first | assumption | exact Ext.refl _ | refine Ext.alloc ?_ _ | refine Ext.drew ?_ | refine Ext.setB ?_ (by first | omega | (simp only [size_alloc, size_setB, size_drew]; omega)) _ | exact Ext.trans (by assumption) (by assumption) | refine Ext.trans ?_ (by assumption)))) (by first | assumption | omega | (rw [sz_zero]; omega)) (by show yarg (ystepG y f) 1 ≤ 100000000; omega)) ?_)
              rintro _ w46_22 ⟨hE46_22, s46, rfl, hN46⟩
              have hz46_22 := hE46_22.1
              try simp only [size_alloc, size_setB, size_drew] at hz46_22
              have hl46 : yarg (ystepG y f) 1 = s46.2.1 := by have h9 := PB.len hN46; rw [ycut_len2] at h9; exact h9
              refine WO_call Hvac.call43 (by rfl) (Ret.mono (yLeave_spec _ (OmB.ext hO (by repeat (first | assumption | exact Ext.refl _ | refine Ext.alloc ?_ _ | refine Ext.drew ?_ | refine Ext.setB ?_ (by first | omega | (simp only [size_alloc, size_setB, size_drew]; omega)) _ | exact Ext.trans (by assumption) (by assumption) | refine Ext.trans ?_ (by assumption)))) Y2 C _ _ _ _ _ N (YX.ext hX14 (by repeat (first | assumption | exact Ext.refl _ | refine Ext.alloc ?_ _ | refine Ext.drew ?_ | refine Ext.setB ?_ (by first | omega | (simp only [size_alloc, size_setB, size_drew]; omega)) _ | exact Ext.trans (by assumption) (by assumption) | refine Ext.trans ?_ (by assumption)))) hB (by omega) hP14 hPr hgf14 (by omega) 0 (by omega) s46.1 s46.2.1 s46.2.2 _ (PB.ext hN46 (by repeat (first | assumption | exact Ext.refl _ | refine Ext.alloc ?_ _ | refine Ext.drew ?_ | refine Ext.setB ?_ (by first | omega | (simp only [size_alloc, size_setB, size_drew]; omega)) _ | exact Ext.trans (by assumption) (by assumption) | refine Ext.trans ?_ (by assumption)))) (by omega)) ?_)
              rintro _ w9 ⟨rfl, hY9⟩
              refine WO_nil ?_
              refine inBlk_normal ?_
              refine thn_normal ?_
              refine W_seq ?_
              refine W_region rfl ?_
              refine WO_p (PS_assign_bool rfl) ?_
              refine WO_nil ?_
              refine thn_normal ?_
              refine W_ret ?_
              refine bodyQ_ret1 Hvac.results11 rfl (.bool _) rfl ?_
              have e9 : ystep ks y rest f = yleave y rest (ystepG y f) 0 (ycut (ystepG y f).mem (yarg (ystepG y f) 0) (yarg (ystepG y f) 1)) := (by unfold ystep; rw [ha14, ha14, if_neg hq, if_neg hq2, if_neg hn0, if_pos ho9]); rw [e9]; exact ⟨rfl, YRet.pre2 hG hK14 (@YRet.pre O2 _ _ _ _ _ _ _ (Ext.keepO (by repeat (first | assumption | exact Ext.refl _ | refine Ext.alloc ?_ _ | refine Ext.drew ?_ | refine Ext.setB ?_ (by first | omega | (simp only [size_alloc, size_setB, size_drew]; omega)) _ | refine Ext.trans ?_ (by assumption))) _) hY9)⟩
            · have hb20p := hb20.h; try simp only [al_ete, al_dfn, Bool.not_eq_true', Bool.not_eq_false', al_ne, Bool.not_not, al_nn] at hb20p
              have hn1 : ¬ yopcode f = 243 := by omega
              refine W_seq ?_
              refine W_region rfl ?_
              refine WO_p (PS_move_int rfl) ?_
              refine WO_p (PS_eql rfl rfl) ?_
              refine WO_p (PS_assign_bool rfl) ?_
              refine WO_nil ?_
              refine thn_normal ?_
              refine W_if rfl (fun hb26 => ?_) (fun hb26 => ?_)
              · have hb26p := hb26.h; try simp only [al_ete, al_dfn, Bool.not_eq_true', Bool.not_eq_false', al_ne, Bool.not_not, al_nn] at hb26p
                have ho9 : yopcode f = 253 := by omega
                have hla : yarg (ystepG y f) 1 ≤ 717280 := by rw [ha14]; exact len_a hrc3 (by omega)
                refine W_region rfl ?_
                refine WO_p (PS_move_ptr rfl) ?_
                refine WO_p (PS_move_ptr rfl) ?_
                refine WO_p (PS_move_ptr rfl) ?_
                refine WO_call Hvac.call47 (by rfl) (Ret.mono (yArg_spec _ (OmB.ext hO (by repeat (first | assumption | exact Ext.refl _ | refine Ext.alloc ?_ _ | refine Ext.drew ?_ | refine Ext.setB ?_ (by first | omega | (simp only [size_alloc, size_setB, size_drew]; omega)) _ | exact Ext.trans (by assumption) (by assumption) | refine Ext.trans ?_ (by assumption)))) _ _ _ _ (by first | assumption | exact FrS.ext (by assumption) (by repeat (first | assumption | exact Ext.refl _ | refine Ext.alloc ?_ _ | refine Ext.drew ?_ | refine Ext.setB ?_ (by first | omega | (simp only [size_alloc, size_setB, size_drew]; omega)) _ | exact Ext.trans (by assumption) (by assumption) | refine Ext.trans ?_ (by assumption)))) hP14 _ (by decide)) ?_)
                rintro _ w47_26 ⟨hE47_26, s47_26, rfl, hN47_26, hs47_26⟩
                have hz47_26 := hE47_26.1
                try simp only [size_alloc, size_setB, size_drew] at hz47_26
                refine WO_p (PS_move_ptr rfl) ?_
                refine WO_call Hvac.call47 (by rfl) (Ret.mono (yArg_spec _ (OmB.ext hO (by repeat (first | assumption | exact Ext.refl _ | refine Ext.alloc ?_ _ | refine Ext.drew ?_ | refine Ext.setB ?_ (by first | omega | (simp only [size_alloc, size_setB, size_drew]; omega)) _ | exact Ext.trans (by assumption) (by assumption) | refine Ext.trans ?_ (by assumption)))) _ _ _ _ (by first | assumption | exact FrS.ext (by assumption) (by repeat (first | assumption | exact Ext.refl _ | refine Ext.alloc ?_ _ | refine Ext.drew ?_ | refine Ext.setB ?_ (by first | omega | (simp only [size_alloc, size_setB, size_drew]; omega)) _ | exact Ext.trans (by assumption) (by assumption) | refine Ext.trans ?_ (by assumption)))) hP14 _ (by decide)) ?_)
                rintro _ w47_27 ⟨hE47_27, s47_27, rfl, hN47_27, hs47_27⟩
                have hz47_27 := hE47_27.1
                try simp only [size_alloc, size_setB, size_drew] at hz47_27
                refine WO_call Hvac.call46 (by rfl) (Ret.mono (yRead_spec _ (OmB.ext hO (by repeat (first | assumption | exact Ext.refl _ | refine Ext.alloc ?_ _ | refine Ext.drew ?_ | refine Ext.setB ?_ (by first | omega | (simp only [size_alloc, size_setB, size_drew]; omega)) _ | exact Ext.trans (by assumption) (by assumption) | refine Ext.trans ?_ (by assumption)))) _ _ _ _ (by first | assumption | exact FrS.ext (by assumption) (by repeat (first | assumption | exact Ext.refl _ | refine Ext.alloc ?_ _ | refine Ext.drew ?_ | refine Ext.setB ?_ (by first | omega | (simp only [size_alloc, size_setB, size_drew]; omega)) _ | exact Ext.trans (by assumption) (by assumption) | refine Ext.trans ?_ (by assumption)))) hP14 _ _ _ _ (by first | exact NN.nil _ | assumption | exact NN.ext (by assumption) (by repeat (first | assumption | exact Ext.refl _ | refine Ext.alloc ?_ _ | refine Ext.drew ?_ | refine Ext.setB ?_ (by first | omega | (simp only [size_alloc, size_setB, size_drew]; omega)) _ | exact Ext.trans (by assumption) (by assumption) | refine Ext.trans ?_ (by assumption)))) (by first | assumption | omega | (rw [sz_zero]; omega)) _ _ _ _ (by first | exact NN.nil _ | assumption | exact NN.ext (by assumption) (by repeat (first | assumption | exact Ext.refl _ | refine Ext.alloc ?_ _ | refine Ext.drew ?_ | refine Ext.setB ?_ (by first | omega | (simp only [size_alloc, size_setB, size_drew]; omega)) _ | exact Ext.trans (by assumption) (by assumption) | refine Ext.trans ?_ (by assumption)))) (by first | assumption | omega | (rw [sz_zero]; omega)) (by show yarg (ystepG y f) 1 ≤ 100000000; omega)) ?_)
                rintro _ w46_28 ⟨hE46_28, s46, rfl, hN46⟩
                have hz46_28 := hE46_28.1
                try simp only [size_alloc, size_setB, size_drew] at hz46_28
                have hl46 : yarg (ystepG y f) 1 = s46.2.1 := by have h9 := PB.len hN46; rw [ycut_len2] at h9; exact h9
                refine WO_call Hvac.call43 (by rfl) (Ret.mono (yLeave_spec _ (OmB.ext hO (by repeat (first | assumption | exact Ext.refl _ | refine Ext.alloc ?_ _ | refine Ext.drew ?_ | refine Ext.setB ?_ (by first | omega | (simp only [size_alloc, size_setB, size_drew]; omega)) _ | exact Ext.trans (by assumption) (by assumption) | refine Ext.trans ?_ (by assumption)))) Y2 C _ _ _ _ _ N (YX.ext hX14 (by repeat (first | assumption | exact Ext.refl _ | refine Ext.alloc ?_ _ | refine Ext.drew ?_ | refine Ext.setB ?_ (by first | omega | (simp only [size_alloc, size_setB, size_drew]; omega)) _ | exact Ext.trans (by assumption) (by assumption) | refine Ext.trans ?_ (by assumption)))) hB (by omega) hP14 hPr hgf14 (by omega) 1 (by omega) s46.1 s46.2.1 s46.2.2 _ (PB.ext hN46 (by repeat (first | assumption | exact Ext.refl _ | refine Ext.alloc ?_ _ | refine Ext.drew ?_ | refine Ext.setB ?_ (by first | omega | (simp only [size_alloc, size_setB, size_drew]; omega)) _ | exact Ext.trans (by assumption) (by assumption) | refine Ext.trans ?_ (by assumption)))) (by omega)) ?_)
                rintro _ w9 ⟨rfl, hY9⟩
                refine WO_nil ?_
                refine inBlk_normal ?_
                refine thn_normal ?_
                refine W_seq ?_
                refine W_region rfl ?_
                refine WO_p (PS_assign_bool rfl) ?_
                refine WO_nil ?_
                refine thn_normal ?_
                refine W_ret ?_
                refine bodyQ_ret1 Hvac.results11 rfl (.bool _) rfl ?_
                have e9 : ystep ks y rest f = yleave y rest (ystepG y f) 1 (ycut (ystepG y f).mem (yarg (ystepG y f) 0) (yarg (ystepG y f) 1)) := (by unfold ystep; rw [ha14, ha14, if_neg hq, if_neg hq2, if_neg hn0, if_neg hn1, if_pos ho9]); rw [e9]; exact ⟨rfl, YRet.pre2 hG hK14 (@YRet.pre O2 _ _ _ _ _ _ _ (Ext.keepO (by repeat (first | assumption | exact Ext.refl _ | refine Ext.alloc ?_ _ | refine Ext.drew ?_ | refine Ext.setB ?_ (by first | omega | (simp only [size_alloc, size_setB, size_drew]; omega)) _ | refine Ext.trans ?_ (by assumption))) _) hY9)⟩
              · have hb26p := hb26.h; try simp only [al_ete, al_dfn, Bool.not_eq_true', Bool.not_eq_false', al_ne, Bool.not_not, al_nn] at hb26p
                have hn2 : ¬ yopcode f = 253 := by omega
                refine W_seq ?_
                refine W_region rfl ?_
                refine WO_p (PS_move_int rfl) ?_
                refine WO_p (PS_eql rfl rfl) ?_
                refine WO_p (PS_assign_bool rfl) ?_
                refine WO_nil ?_
                refine thn_normal ?_
                refine W_if rfl (fun hb32 => ?_) (fun hb32 => ?_)
                · have hb32p := hb32.h; try simp only [al_ete, al_dfn, Bool.not_eq_true', Bool.not_eq_false', al_ne, Bool.not_not, al_nn] at hb32p
                  have ho9 : yopcode f = 255 := by omega
                  refine W_region rfl ?_
                  refine WO_p (PS_move_ptr rfl) ?_
                  refine WO_p (PS_move_ptr rfl) ?_
                  refine WO_call Hvac.call48 (by rfl) (Ret.mono (yDestroys_spec _ (OmB.ext hO (by repeat (first | assumption | exact Ext.refl _ | refine Ext.alloc ?_ _ | refine Ext.drew ?_ | refine Ext.setB ?_ (by first | omega | (simp only [size_alloc, size_setB, size_drew]; omega)) _ | exact Ext.trans (by assumption) (by assumption) | refine Ext.trans ?_ (by assumption)))) Y2 C _ _ _ _ _ N (YX.ext hX14 (by repeat (first | assumption | exact Ext.refl _ | refine Ext.alloc ?_ _ | refine Ext.drew ?_ | refine Ext.setB ?_ (by first | omega | (simp only [size_alloc, size_setB, size_drew]; omega)) _ | exact Ext.trans (by assumption) (by assumption) | refine Ext.trans ?_ (by assumption)))) hB hN hYB hP14 hPr hgf14 hrl F hFp) ?_)
                  rintro _ w9 ⟨rfl, hY9⟩
                  refine WO_nil ?_
                  refine inBlk_normal ?_
                  refine thn_normal ?_
                  refine W_seq ?_
                  refine W_region rfl ?_
                  refine WO_p (PS_assign_bool rfl) ?_
                  refine WO_nil ?_
                  refine thn_normal ?_
                  refine W_ret ?_
                  refine bodyQ_ret1 Hvac.results11 rfl (.bool _) rfl ?_
                  have e9 : ystep ks y rest f = ydestroys y rest (ystepG y f) := (by unfold ystep; rw [if_neg hq, if_neg hq2, if_neg hn0, if_neg hn1, if_neg hn2, if_pos ho9]); rw [e9]; exact ⟨rfl, YRet.pre2 hG hK14 (@YRet.pre O2 _ _ _ _ _ _ _ (Ext.keepO (by repeat (first | assumption | exact Ext.refl _ | refine Ext.alloc ?_ _ | refine Ext.drew ?_ | refine Ext.setB ?_ (by first | omega | (simp only [size_alloc, size_setB, size_drew]; omega)) _ | refine Ext.trans ?_ (by assumption))) _) hY9)⟩
                · have hb32p := hb32.h; try simp only [al_ete, al_dfn, Bool.not_eq_true', Bool.not_eq_false', al_ne, Bool.not_not, al_nn] at hb32p
                  have hn3 : ¬ yopcode f = 255 := by omega
                  refine W_seq ?_
                  refine W_region rfl ?_
                  refine WO_p (PS_move_int rfl) ?_
                  refine WO_call Hvac.call49 (by rfl) (Ret.mono (family_spec _ _ ⟨ho1, ho2⟩) ?_)
                  rintro _ w49_33 ⟨hE49_33, rfl⟩
                  have hz49_33 := hE49_33.1
                  try simp only [size_alloc, size_setB, size_drew] at hz49_33
                  refine WO_p (PS_eql rfl rfl) ?_
                  refine WO_p (PS_assign_bool rfl) ?_
                  refine WO_nil ?_
                  refine thn_normal ?_
                  refine W_if rfl (fun hb36 => ?_) (fun hb36 => ?_)
                  · have hb36p := hb36.h; try simp only [al_ete, al_dfn, Bool.not_eq_true', Bool.not_eq_false', al_ne, Bool.not_not, al_nn] at hb36p
                    have ho9 : yfam (yopcode f) = 16 := by omega
                    have hfo := fam16 ⟨ho1, ho2⟩ ho9 hn3
                    have hin1 : yopcode f = 240 ∨ yopcode f = 245 → yarg (ystepG y f) 2 ≤ 1000000 := fun h9 => by rw [ha14]; exact Nat.le_trans (hNR.cr h9) (by decide)
                    have hin2 : ¬ (yopcode f = 240 ∨ yopcode f = 245) → yarg (ystepG y f) (yck (yopcode f) + 1) ≤ 1000000 := fun h9 => by rw [ha14]; exact Nat.le_trans (len_d hrc3 (by omega)) (by decide)
                    refine W_region rfl ?_
                    refine WO_p (PS_move_ptr rfl) ?_
                    refine WO_p (PS_move_ptr rfl) ?_
                    refine WO_p (PS_move_int rfl) ?_
                    refine WO_call Hvac.call50 (by rfl) (Ret.mono (yEnters_spec _ (OmB.ext hO (by repeat (first | assumption | exact Ext.refl _ | refine Ext.alloc ?_ _ | refine Ext.drew ?_ | refine Ext.setB ?_ (by first | omega | (simp only [size_alloc, size_setB, size_drew]; omega)) _ | exact Ext.trans (by assumption) (by assumption) | refine Ext.trans ?_ (by assumption)))) Y2 C _ _ _ _ _ N (YX.ext hX14 (by repeat (first | assumption | exact Ext.refl _ | refine Ext.alloc ?_ _ | refine Ext.drew ?_ | refine Ext.setB ?_ (by first | omega | (simp only [size_alloc, size_setB, size_drew]; omega)) _ | exact Ext.trans (by assumption) (by assumption) | refine Ext.trans ?_ (by assumption)))) hB hN hYB hP14 hPr hgf14 hrl F hFp ks hK _ hfo hst14 hin1 hin2 hfv14) ?_)
                    rintro _ w9 ⟨rfl, hY9⟩
                    refine WO_nil ?_
                    refine inBlk_normal ?_
                    refine thn_normal ?_
                    refine W_seq ?_
                    refine W_region rfl ?_
                    refine WO_p (PS_assign_bool rfl) ?_
                    refine WO_nil ?_
                    refine thn_normal ?_
                    refine W_ret ?_
                    refine bodyQ_ret1 Hvac.results11 rfl (.bool _) rfl ?_
                    have e9 : ystep ks y rest f = yenters ks y rest (ystepG y f) (yopcode f) := (by unfold ystep; rw [if_neg hq, if_neg hq2, if_neg hn0, if_neg hn1, if_neg hn2, if_neg hn3, if_pos ho9]); rw [e9]; exact ⟨rfl, YRet.pre2 hG hK14 (@YRet.pre O2 _ _ _ _ _ _ _ (Ext.keepO (by repeat (first | assumption | exact Ext.refl _ | refine Ext.alloc ?_ _ | refine Ext.drew ?_ | refine Ext.setB ?_ (by first | omega | (simp only [size_alloc, size_setB, size_drew]; omega)) _ | refine Ext.trans ?_ (by assumption))) _) hY9)⟩
                  · have hb36p := hb36.h; try simp only [al_ete, al_dfn, Bool.not_eq_true', Bool.not_eq_false', al_ne, Bool.not_not, al_nn] at hb36p
                    have ho9 : ¬ yfam (yopcode f) = 16 := by omega
                    have hvo := plain_vo (o := yopcode f) ⟨ho1, ho2⟩ hNR.kn ho9
                    have hk32 : yopcode f = 32 → yarg (ystepG y f) 1 ≤ 1000000 := fun h9 => by rw [ha14]; exact Nat.le_trans (len_a hrc3 (by omega)) (by decide)
                    have hcp : yopcode f = 55 ∨ yopcode f = 57 ∨ yopcode f = 62 ∨ yopcode f = 94 → yarg (ystepG y f) 2 ≤ 1000000 := fun h9 => by rw [ha14]; exact Nat.le_trans (len_b hrc3 h9) (by decide)
                    have hcp2 : yopcode f = 60 → yarg (ystepG y f) 3 ≤ 1000000 := fun h9 => by rw [ha14]; exact Nat.le_trans (len_c hrc3 h9) (by decide)
                    have hlg : 160 ≤ yopcode f ∧ yopcode f ≤ 164 → yarg (ystepG y f) 1 ≤ 1000000 := fun h9 => by rw [ha14]; exact Nat.le_trans (len_a hrc3 (by omega)) (by decide)
                    refine W_region rfl ?_
                    refine WO_p (PS_move_ptr rfl) ?_
                    refine WO_p (PS_move_ptr rfl) ?_
                    refine WO_p (PS_move_int rfl) ?_
                    refine WO_call Hvac.call51 (by rfl) (Ret.mono (yPlain_spec _ (OmB.ext hO (by repeat (first | assumption | exact Ext.refl _ | refine Ext.alloc ?_ _ | refine Ext.drew ?_ | refine Ext.setB ?_ (by first | omega | (simp only [size_alloc, size_setB, size_drew]; omega)) _ | exact Ext.trans (by assumption) (by assumption) | refine Ext.trans ?_ (by assumption)))) Y2 C _ _ _ _ _ N (YX.ext hX14 (by repeat (first | assumption | exact Ext.refl _ | refine Ext.alloc ?_ _ | refine Ext.drew ?_ | refine Ext.setB ?_ (by first | omega | (simp only [size_alloc, size_setB, size_drew]; omega)) _ | exact Ext.trans (by assumption) (by assumption) | refine Ext.trans ?_ (by assumption)))) hB hN hYB hP14 hPr hgf14 hrl F hFp hrz ks hK hhl _ ⟨ho1, ho2⟩ hst14 hsl14 hpz14 hvo hk32 hcp hcp2 hlg) ?_)
                    rintro _ w9 ⟨rfl, hY9⟩
                    refine WO_nil ?_
                    refine inBlk_normal ?_
                    refine thn_normal ?_
                    refine W_seq ?_
                    refine W_region rfl ?_
                    refine WO_p (PS_assign_bool rfl) ?_
                    refine WO_nil ?_
                    refine thn_normal ?_
                    refine W_ret ?_
                    refine bodyQ_ret1 Hvac.results11 rfl (.bool _) rfl ?_
                    have e9 : ystep ks y rest f = yplain ks y rest (ystepG y f) (yopcode f) := (by unfold ystep; rw [if_neg hq, if_neg hq2, if_neg hn0, if_neg hn1, if_neg hn2, if_neg hn3, if_neg ho9]); rw [e9]; exact ⟨rfl, YRet.pre2 hG hK14 (@YRet.pre O2 _ _ _ _ _ _ _ (Ext.keepO (by repeat (first | assumption | exact Ext.refl _ | refine Ext.alloc ?_ _ | refine Ext.drew ?_ | refine Ext.setB ?_ (by first | omega | (simp only [size_alloc, size_setB, size_drew]; omega)) _ | refine Ext.trans ?_ (by assumption))) _) hY9)⟩

end Go.Proofs.YgvacwGreat
