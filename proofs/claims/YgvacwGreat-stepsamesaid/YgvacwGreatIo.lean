import Derived.Test.YgvacwGreatIn
namespace Go.Proofs.YgvacwGreat
set_option linter.unusedSimpArgs false
set_option linter.unusedVariables false
theorem PB.b44 [Om] {w : World} {s : SV} {L : List Int} {b : Nat} {r : Array Value} {o : Obj} (h : PB w s L) (hb : Hb w b (.cells r 44 (0, 0))) : PB (setB w b o) s L := h.kt (KT.setB hb (by decide))
theorem encVw_st {v : Vw} (h1 : v.self.length = 20) (h2 : v.caller.length = 20) (p : Option Addr) (n c : Nat) : (encVw v).toArray.setIfInBounds (0 + 46) (.slice p n c) = (encVw { v with stack := (p, n, c) }).toArray := by
  obtain ⟨d, q, de, pc, g, r, A, B, s8, s9, s10, nl⟩ := v
  obtain ⟨a0, a1, a2, a3, a4, a5, a6, a7, a8, a9, a10, a11, a12, a13, a14, a15, a16, a17, a18, a19, rfl⟩ := len20 h1
  obtain ⟨e0, e1, e2, e3, e4, e5, e6, e7, e8, e9, e10, e11, e12, e13, e14, e15, e16, e17, e18, e19, rfl⟩ := len20 h2
  rfl
theorem encVw_8 {v : Vw} (h1 : v.self.length = 20) (h2 : v.caller.length = 20) : Ce (encVw v).toArray (0 + 46) (.slice v.stack.1 v.stack.2.1 v.stack.2.2) := ⟨by
  obtain ⟨d, q, de, pc, g, r, A, B, s8, s9, s10, nl⟩ := v
  obtain ⟨a0, a1, a2, a3, a4, a5, a6, a7, a8, a9, a10, a11, a12, a13, a14, a15, a16, a17, a18, a19, rfl⟩ := len20 h1
  obtain ⟨e0, e1, e2, e3, e4, e5, e6, e7, e8, e9, e10, e11, e12, e13, e14, e15, e16, e17, e18, e19, rfl⟩ := len20 h2
  rfl⟩

set_option maxRecDepth 10000 in
set_option maxHeartbeats 4000000 in
theorem yViewR_spec [Om] (w : World) (hO : OmB w) (Y : Nat → Prop) (C : Nat) (x : YSt) (y : PSt) (xs : List YFr) (rest : List PF) (f : PF) (N : Nat) (hX : YX Y w C x y xs (rest ++ [f])) (hB : PSB N y) (hN : N ≤ 99999800) (hYB : YB y) (hP : PFB f) (hPr : ∀ g ∈ rest, PFB g ∧ sz g.gas ≤ 30) (hgf : sz f.gas ≤ 30) (hrl : rest.length ≤ 800) (F : Nat) (hFp : x.frames.1 = some ⟨F, 0, none⟩) (hph : y.phase = 1) (hpc : f.pc ≤ 65535) (hsl : f.stack.length ≤ 1000) (hr7 : rest.length ≤ 255) (hnl : y.now.nlogs ≤ 65535) (hrz : sz y.now.ref ≤ 1000) (hml : f.mem.length ≤ 10000000) : Ret Hvac.prog 9 #[.pointer (some ⟨C, 0, none⟩)] w fun u w' => Ext w w' ∧ ∃ s8 s9 s10 : SV, u = .agg (encVw ⟨false, f.statY, rest.length, ysmall f.pc, ysmall f.gas, ysmall y.now.ref, f.self, f.caller, s8, s9, s10, y.now.nlogs⟩).toArray ∧ PL encW32 32 28 w' s8 (f.stack.map be32N) ∧ PB w' s9 f.mem ∧ PB w' s10 y.ret := by
  have hO0 := hO
  have hSb := hX.ss.blk
  have hSS := hX.ss
  have hSo := hX.ss.om
  have hSl := hSb.lt
  obtain ⟨r, xf, hxf, hFM, hMW, hYF, hlf⟩ := hX.top hFp
  have hFR := hFM.rel
  have hFC := hFM.fc
  have hFb := hFM.blk
  have hFo := hFM.om
  have hFl := hFb.lt
  have hFsz := hFC.size
  have hFS := hFM.s0
  have hk12 := hFC.self
  rw [hFR.self] at hk12
  have hsbl := hFR.sb.1
  have hzs := encYS_size x
  have hfcap := hX.frs.cap
  have hpx : x.phase = 1 := by rw [hX.ss.rel.phase, hph]
  have hk11 : Ce (encYS x).toArray (0 + 11) (.int .u8 1) := ⟨by have h9 : (encYS x).toArray[0 + 11]? = some (.int .u8 x.phase) := rfl; rw [h9, hpx]; rfl⟩
  have hk9 : Ce (encYS x).toArray (0 + 9) (.slice (some ⟨F, 0, none⟩) (rest.length + 1) x.frames.2.2) := ⟨by have h9 : (encYS x).toArray[0 + 9]? = some (.slice x.frames.1 x.frames.2.1 x.frames.2.2) := rfl; rw [h9, hlf, hFp]⟩
  have hlg := hX.ss.rel.now.logs.len
  have hk3 : Ce (encYS x).toArray (0 + 0 + 3) (.slice x.now.ref.1 x.now.ref.2.1 x.now.ref.2.2) := ⟨rfl⟩
  have hk4 : Ce (encYS x).toArray (0 + 0 + 4) (.slice x.now.logs.1 y.now.nlogs x.now.logs.2.2) := ⟨by rw [← hlg]; rfl⟩
  have hk10 : Ce (encYS x).toArray (0 + 10) (.slice x.ret.1 x.ret.2.1 x.ret.2.2) := ⟨rfl⟩
  have hNr := hX.ss.rel.now.ref
  have hPrt := hX.ss.rel.ret
  have hPrl := hPrt.len
  have hrl := hB.rl
  have hpcb : 0 ≤ ysmall f.pc ∧ ysmall f.pc ≤ 65535 := by unfold ysmall; rw [if_pos (by omega)]; omega
  have hmAB := hFR.mem.ab
  have hmABl := hmAB.len
  have hsbl2 := hFR.cb.1
  have hk32 := hFC.caller
  rw [hFR.caller] at hk32
  have hk2 := hFC.statY
  rw [hFR.statY] at hk2
  have hkp3 := hFC.pc
  have hkg4 := hFC.gas
  have hkm9 := hFC.mem
  have hNp := hFR.pc
  have hNg := hFR.gas
  have hzp := hP.pc
  have hzg := hP.gas
  have hsz0 : (encVw vw0).toArray.size = 50 := encVw_sz rfl rfl
  refine Ret_of_W Hvac.func9 rfl rfl ?_
  refine W_seq ?_
  refine W_region rfl ?_
  refine WO_allocG Hvac.zeroValue44 ?_
  intro b2 v2 hg2 hE2 hH2 hl2
  try simp only [size_alloc, size_setB, size_drew] at hg2
  have hzz2 := hE2.1
  try simp only [size_alloc, size_setB, size_drew] at hzz2
  replace hH2 : Hb v2 b2 (.cells ((encVw vw0).toArray) 44 (0, 0)) := hH2
  refine WO_nil ?_
  refine thn_normal ?_
  refine W_seq ?_
  refine W_region rfl ?_
  refine WO_p (PS_move_ptr rfl) ?_
  refine WO_p (PS_nilCheck rfl) ?_
  refine WO_p (PS_fieldAddr 0 Hvac.runUnderlying101 rfl Hvac.sizeOf99 rfl rfl) ?_
  refine WO_p (PS_assign_ptr rfl) ?_
  refine WO_nil ?_
  refine thn_normal ?_
  refine W_seq ?_
  refine W_seq ?_
  refine W_region rfl ?_
  refine WO_p (PS_move_ptr rfl) ?_
  refine WO_p (PS_nilCheck rfl) ?_
  refine WO_p (PS_fieldAddr 11 Hvac.runUnderlying99 rfl Hvac.sizeOf5 rfl rfl) ?_
  refine WO_load (.int _ _) Hvac.isAgg5 rfl (Hb.h (by repeat (first | assumption | exact Hb.newY _ _ | refine Hb.alloc ?_ | refine Hb.drew ?_ | refine Hb.ext (by assumption) ?_ | exact Hb.setSameL (by first | omega | (simp only [size_alloc, size_setB, size_drew]; omega)) | exact Hb.setSame (by assumption) | refine Hb.set (by first | omega | (simp only [size_alloc, size_setB, size_drew]; omega)) ?_ ))) (Ce.h (by first | assumption | exact ⟨rfl⟩)) ?_
  refine WO_p (PS_eql rfl rfl) ?_
  refine WO_nil ?_
  refine thn_normal ?_
  refine W_if rfl (fun hb2 => ?_) (fun hb2 => ?_)
  · have hb2p := hb2.h; try simp only [al_ete, al_dfn, Bool.not_eq_true', Bool.not_eq_false', al_ne, Bool.not_not, al_nn] at hb2p
    exfalso; omega --END
  · have hb2p := hb2.h; try simp only [al_ete, al_dfn, Bool.not_eq_true', Bool.not_eq_false', al_ne, Bool.not_not, al_nn] at hb2p
    refine W_skip ?_
    refine thn_normal ?_
    refine W_seq ?_
    refine W_seq ?_
    refine W_region rfl ?_
    refine WO_p (PS_move_ptr rfl) ?_
    refine WO_p (PS_nilCheck rfl) ?_
    refine WO_p (PS_fieldAddr 11 Hvac.runUnderlying99 rfl Hvac.sizeOf5 rfl rfl) ?_
    refine WO_load (.int _ _) Hvac.isAgg5 rfl (Hb.h (by repeat (first | assumption | exact Hb.newY _ _ | refine Hb.alloc ?_ | refine Hb.drew ?_ | refine Hb.ext (by assumption) ?_ | exact Hb.setSameL (by first | omega | (simp only [size_alloc, size_setB, size_drew]; omega)) | exact Hb.setSame (by assumption) | refine Hb.set (by first | omega | (simp only [size_alloc, size_setB, size_drew]; omega)) ?_ ))) (Ce.h (by first | assumption | exact ⟨rfl⟩)) ?_
    refine WO_p (PS_neq rfl rfl) ?_
    refine WO_p (PS_move_bool rfl) ?_
    refine WO_if (t := 45) rfl (fun hb4 => ?_) (fun hb4 => ?_)
    · have hb4p := hb4.h; try simp only [al_ete, al_dfn, Bool.not_eq_true', Bool.not_eq_false', al_ne, Bool.not_not, al_nn] at hb4p
      exfalso; simp at hb4p --END
    · have hb4p := hb4.h; try simp only [al_ete, al_dfn, Bool.not_eq_true', Bool.not_eq_false', al_ne, Bool.not_not, al_nn] at hb4p
      refine WO_guardT rfl rfl hb4.h ?_
      refine WO_p (PS_move_ptr rfl) ?_
      refine WO_guardT rfl rfl hb4.h ?_
      refine WO_p (PS_nilCheck rfl) ?_
      refine WO_guardT rfl rfl hb4.h ?_
      refine WO_p (PS_fieldAddr 9 Hvac.runUnderlying99 rfl Hvac.sizeOf97 rfl rfl) ?_
      refine WO_guardT rfl rfl hb4.h ?_
      refine WO_load (.slice _ _ _) Hvac.isAgg97 rfl (Hb.h (by repeat (first | assumption | exact Hb.newY _ _ | refine Hb.alloc ?_ | refine Hb.drew ?_ | refine Hb.ext (by assumption) ?_ | exact Hb.setSameL (by first | omega | (simp only [size_alloc, size_setB, size_drew]; omega)) | exact Hb.setSame (by assumption) | refine Hb.set (by first | omega | (simp only [size_alloc, size_setB, size_drew]; omega)) ?_ ))) (Ce.h (by first | assumption | exact ⟨rfl⟩)) ?_
      refine WO_guardT rfl rfl hb4.h ?_
      refine WO_p (PS_lenS Hvac.runUnderlying97 rfl) ?_
      refine WO_guardT rfl rfl hb4.h ?_
      refine WO_p (PS_eql rfl rfl) ?_
      refine WO_p (PS_pickF rfl hb4.h rfl) ?_
      refine WO_nil ?_
      refine thn_normal ?_
      refine W_if rfl (fun hb6 => ?_) (fun hb6 => ?_)
      · have hb6p := hb6.h; try simp only [al_ete, al_dfn, Bool.not_eq_true', Bool.not_eq_false', al_ne, Bool.not_not, al_nn] at hb6p
        exfalso; simp at hb6p; omega --END
      · have hb6p := hb6.h; try simp only [al_ete, al_dfn, Bool.not_eq_true', Bool.not_eq_false', al_ne, Bool.not_not, al_nn] at hb6p
        refine W_skip ?_
        refine thn_normal ?_
        refine W_seq ?_
        refine W_drawE [false, false, false, false, false, false, false, false, false, false, false, false] hmix (by kernel_rfl) rfl ?_
        refine WH_p (PS_move_ptr rfl) rfl ?_
        refine WH_p (PS_nilCheck rfl) rfl ?_
        refine WH_p (PS_fieldAddr 9 Hvac.runUnderlying99 rfl Hvac.sizeOf97 rfl rfl) rfl ?_
        refine WH_load (.slice _ _ _) Hvac.isAgg97 rfl (Hb.h (by repeat (first | assumption | exact Hb.newY _ _ | refine Hb.alloc ?_ | refine Hb.drew ?_ | refine Hb.ext (by assumption) ?_ | exact Hb.setSameL (by first | omega | (simp only [size_alloc, size_setB, size_drew]; omega)) | exact Hb.setSame (by assumption) | refine Hb.set (by first | omega | (simp only [size_alloc, size_setB, size_drew]; omega)) ?_ ))) (Ce.h (by first | assumption | exact ⟨rfl⟩)) ?_
        refine WH_p (PS_move_ptr rfl) rfl ?_
        refine WH_p (PS_nilCheck rfl) rfl ?_
        refine WH_p (PS_fieldAddr 9 Hvac.runUnderlying99 rfl Hvac.sizeOf97 rfl rfl) rfl ?_
        refine WH_load (.slice _ _ _) Hvac.isAgg97 rfl (Hb.h (by repeat (first | assumption | exact Hb.newY _ _ | refine Hb.alloc ?_ | refine Hb.drew ?_ | refine Hb.ext (by assumption) ?_ | exact Hb.setSameL (by first | omega | (simp only [size_alloc, size_setB, size_drew]; omega)) | exact Hb.setSame (by assumption) | refine Hb.set (by first | omega | (simp only [size_alloc, size_setB, size_drew]; omega)) ?_ ))) (Ce.h (by first | assumption | exact ⟨rfl⟩)) ?_
        refine WH_p (PS_lenS Hvac.runUnderlying97 rfl) rfl ?_
        refine WH_p (PS_sub_i64n rfl rfl (by omega) (by omega)) rfl ?_
        refine WH_p (PS_indexS Hvac.runUnderlying97 Hvac.sizeOf121 rfl rfl (by omega) (by omega)) rfl ?_
        rw [show 0 + (((rest.length + 1 : Nat) : Int) - 1).toNat * 60 = rest.length * 60 by omega]
        refine WH_p (PS_assign_ptr rfl) rfl ?_
        refine WH_nil ?_
        refine thn_normal ?_
        refine W_seqJ (fun ρ w' => ∃ (b5 : Nat) (s9 s10 : SV), Fr [(2, .pointer (some ⟨b2, 0, none⟩)), (4, .pointer (some ⟨F, rest.length * 60, none⟩)), (5, .pointer (some ⟨b5, 0, none⟩))] ρ ∧ Ext w w' ∧ w.heap.size ≤ b5 ∧ b2 ≠ b5 ∧ Hb w' b2 (.cells (encVw vw0).toArray 44 (0, 0)) ∧ Hb w' b5 (.cells (encVw ⟨false, f.statY, rest.length, ysmall f.pc, ysmall f.gas, ysmall y.now.ref, f.self, f.caller, (none, 0, 0), s9, s10, y.now.nlogs⟩).toArray 44 (0, 0)) ∧ PB w' s9 f.mem ∧ PB w' s10 y.ret) ?_ ?_
        · skip
          refine W_drawF [false, false, false, false, false, false, false, false, false, false, false, false, false, false, false, true, false, false, false, false, false, true, false, false, false, false, false, true, false, false, false, false, false, false, false, false, false, false, false, false, true, false, false, false, false, true, false, false, false, false, false, false, false, false, true, false] [54] [0, 1, 2, 3, 4, 5, 6, 7, 8, 9, 10, 11, 12, 13, 14, 15, 16, 17, 18, 19, 20, 21, 22, 23, 24, 25, 26, 27, 28, 29, 30, 31, 32, 33, 34, 35, 36, 37, 38, 39, 40, 41, 42, 43, 44, 45, 46, 47, 48, 49, 50, 51, 52, 53, 55] hmix (by kernel_rfl) rfl rfl rfl ?_
          refine F_q (i := 0) rfl (by kernel_rfl) ?_
          refine WH_p (PS_move_ptr rfl) rfl ?_
          refine WH_nil ?_
          refine F_q (i := 1) rfl (by kernel_rfl) ?_
          refine WH_p (PS_nilCheck rfl) rfl ?_
          refine WH_nil ?_
          refine F_q (i := 2) rfl (by kernel_rfl) ?_
          refine WH_p (PS_fieldAddr 2 Hvac.runUnderlying121 rfl Hvac.sizeOf4 rfl rfl) rfl ?_
          refine WH_nil ?_
          refine F_q (i := 3) rfl (by kernel_rfl) ?_
          refine WH_load (.bool _) Hvac.isAgg4 rfl (Hb.h (by repeat (first | assumption | exact Hb.newY _ _ | refine Hb.alloc ?_ | refine Hb.drew ?_ | refine Hb.ext (by assumption) ?_ | exact Hb.setSameL (by first | omega | (simp only [size_alloc, size_setB, size_drew]; omega)) | exact Hb.setSame (by assumption) | refine Hb.set (by first | omega | (simp only [size_alloc, size_setB, size_drew]; omega)) ?_ ))) (Ce.h (by first | assumption | exact ⟨rfl⟩)) ?_
          refine WH_nil ?_
          refine F_q (i := 4) rfl (by kernel_rfl) ?_
          refine WH_p (PS_move_ptr rfl) rfl ?_
          refine WH_nil ?_
          refine F_q (i := 5) rfl (by kernel_rfl) ?_
          refine WH_p (PS_nilCheck rfl) rfl ?_
          refine WH_nil ?_
          refine F_q (i := 6) rfl (by kernel_rfl) ?_
          refine WH_p (PS_fieldAddr 9 Hvac.runUnderlying99 rfl Hvac.sizeOf97 rfl rfl) rfl ?_
          refine WH_nil ?_
          refine F_q (i := 7) rfl (by kernel_rfl) ?_
          refine WH_load (.slice _ _ _) Hvac.isAgg97 rfl (Hb.h (by repeat (first | assumption | exact Hb.newY _ _ | refine Hb.alloc ?_ | refine Hb.drew ?_ | refine Hb.ext (by assumption) ?_ | exact Hb.setSameL (by first | omega | (simp only [size_alloc, size_setB, size_drew]; omega)) | exact Hb.setSame (by assumption) | refine Hb.set (by first | omega | (simp only [size_alloc, size_setB, size_drew]; omega)) ?_ ))) (Ce.h (by first | assumption | exact ⟨rfl⟩)) ?_
          refine WH_nil ?_
          refine F_q (i := 8) rfl (by kernel_rfl) ?_
          refine WH_p (PS_lenS Hvac.runUnderlying97 rfl) rfl ?_
          refine WH_nil ?_
          refine F_q (i := 9) rfl (by kernel_rfl) ?_
          refine WH_p (PS_sub_i64n rfl rfl (by omega) (by omega)) rfl ?_
          refine WH_nil ?_
          refine F_q (i := 10) rfl (by kernel_rfl) ?_
          refine WH_p (PS_conv_u8n Hvac.runUnderlying3 Hvac.runUnderlying5 rfl (by omega) (by omega)) rfl ?_
          refine WH_nil ?_
          refine F_q (i := 11) rfl (by kernel_rfl) ?_
          refine WH_p (PS_move_ptr rfl) rfl ?_
          refine WH_nil ?_
          refine F_q (i := 12) rfl (by kernel_rfl) ?_
          refine WH_p (PS_nilCheck rfl) rfl ?_
          refine WH_nil ?_
          refine F_q (i := 13) rfl (by kernel_rfl) ?_
          refine WH_p (PS_fieldAddr 3 Hvac.runUnderlying121 rfl Hvac.sizeOf92 rfl rfl) rfl ?_
          refine WH_nil ?_
          refine F_q (i := 14) rfl (by kernel_rfl) ?_
          refine WH_load (.slice _ _ _) Hvac.isAgg92 rfl (Hb.h (by repeat (first | assumption | exact Hb.newY _ _ | refine Hb.alloc ?_ | refine Hb.drew ?_ | refine Hb.ext (by assumption) ?_ | exact Hb.setSameL (by first | omega | (simp only [size_alloc, size_setB, size_drew]; omega)) | exact Hb.setSame (by assumption) | refine Hb.set (by first | omega | (simp only [size_alloc, size_setB, size_drew]; omega)) ?_ ))) (Ce.h (by first | assumption | exact ⟨rfl⟩)) ?_
          refine WH_nil ?_
          refine F_fork1 (i := 15) rfl rfl ?_ ?_
          · refine WH_call Hvac.call37 (by rfl) (Ret.mono (small_spec2 _ (OmB.ext hO (by repeat (first | assumption | exact Ext.refl _ | refine Ext.alloc ?_ _ | refine Ext.drew ?_ | refine Ext.setB ?_ (by first | omega | (simp only [size_alloc, size_setB, size_drew]; omega)) _ | exact Ext.trans (by assumption) (by assumption) | refine Ext.trans ?_ (by assumption)))) _ _ _ _ (by first | exact NN.nil _ | assumption | exact NN.ext (by assumption) (by repeat (first | assumption | exact Ext.refl _ | refine Ext.alloc ?_ _ | refine Ext.drew ?_ | refine Ext.setB ?_ (by first | omega | (simp only [size_alloc, size_setB, size_drew]; omega)) _ | exact Ext.trans (by assumption) (by assumption) | refine Ext.trans ?_ (by assumption)))) (by first | assumption | omega | (rw [sz_zero]; omega))) ?_)
            rintro _ w37_7 ⟨hE37_7, rfl⟩
            refine ⟨fun _ => (by repeat (first | assumption | exact Ext.refl _ | refine Ext.alloc ?_ _ | refine Ext.drew ?_ | refine Ext.setB ?_ (by first | omega | (simp only [size_alloc, size_setB, size_drew]; omega)) _ | exact Ext.trans (by assumption) (by assumption) | refine Ext.trans ?_ (by assumption))), ?_⟩
            have hz37_7 := hE37_7.1
            try simp only [size_alloc, size_setB, size_drew] at hz37_7
            refine WH_nil ?_
            refine F_q (i := 16) rfl (by kernel_rfl) ?_
            refine WH_p (PS_conv_u16n Hvac.runUnderlying26 Hvac.runUnderlying42 rfl (by omega) (by omega)) rfl ?_
            refine WH_nil ?_
            refine F_q (i := 17) rfl (by kernel_rfl) ?_
            refine WH_p (PS_move_ptr rfl) rfl ?_
            refine WH_nil ?_
            refine F_q (i := 18) rfl (by kernel_rfl) ?_
            refine WH_p (PS_nilCheck rfl) rfl ?_
            refine WH_nil ?_
            refine F_q (i := 19) rfl (by kernel_rfl) ?_
            refine WH_p (PS_fieldAddr 4 Hvac.runUnderlying121 rfl Hvac.sizeOf92 rfl rfl) rfl ?_
            refine WH_nil ?_
            refine F_q (i := 20) rfl (by kernel_rfl) ?_
            refine WH_load (.slice _ _ _) Hvac.isAgg92 rfl (Hb.h (by repeat (first | assumption | exact Hb.newY _ _ | refine Hb.alloc ?_ | refine Hb.drew ?_ | refine Hb.ext (by assumption) ?_ | exact Hb.setSameL (by first | omega | (simp only [size_alloc, size_setB, size_drew]; omega)) | exact Hb.setSame (by assumption) | refine Hb.set (by first | omega | (simp only [size_alloc, size_setB, size_drew]; omega)) ?_ ))) (Ce.h (by first | assumption | exact ⟨rfl⟩)) ?_
            refine WH_nil ?_
            refine F_fork1 (i := 21) rfl rfl ?_ ?_
            · refine WH_call Hvac.call37 (by rfl) (Ret.mono (small_spec2 _ (OmB.ext hO (by repeat (first | assumption | exact Ext.refl _ | refine Ext.alloc ?_ _ | refine Ext.drew ?_ | refine Ext.setB ?_ (by first | omega | (simp only [size_alloc, size_setB, size_drew]; omega)) _ | exact Ext.trans (by assumption) (by assumption) | refine Ext.trans ?_ (by assumption)))) _ _ _ _ (by first | exact NN.nil _ | assumption | exact NN.ext (by assumption) (by repeat (first | assumption | exact Ext.refl _ | refine Ext.alloc ?_ _ | refine Ext.drew ?_ | refine Ext.setB ?_ (by first | omega | (simp only [size_alloc, size_setB, size_drew]; omega)) _ | exact Ext.trans (by assumption) (by assumption) | refine Ext.trans ?_ (by assumption)))) (by first | assumption | omega | (rw [sz_zero]; omega))) ?_)
              rintro _ w37_8 ⟨hE37_8, rfl⟩
              refine ⟨fun _ => (by repeat (first | assumption | exact Ext.refl _ | refine Ext.alloc ?_ _ | refine Ext.drew ?_ | refine Ext.setB ?_ (by first | omega | (simp only [size_alloc, size_setB, size_drew]; omega)) _ | exact Ext.trans (by assumption) (by assumption) | refine Ext.trans ?_ (by assumption))), ?_⟩
              have hz37_8 := hE37_8.1
              try simp only [size_alloc, size_setB, size_drew] at hz37_8
              refine WH_nil ?_
              refine F_q (i := 22) rfl (by kernel_rfl) ?_
              refine WH_p (PS_move_ptr rfl) rfl ?_
              refine WH_nil ?_
              refine F_q (i := 23) rfl (by kernel_rfl) ?_
              refine WH_p (PS_nilCheck rfl) rfl ?_
              refine WH_nil ?_
              refine F_q (i := 24) rfl (by kernel_rfl) ?_
              refine WH_p (PS_fieldAddr 0 Hvac.runUnderlying99 rfl Hvac.sizeOf95 rfl rfl) rfl ?_
              refine WH_nil ?_
              refine F_q (i := 25) rfl (by kernel_rfl) ?_
              refine WH_p (PS_fieldAddr 3 Hvac.runUnderlying95 rfl Hvac.sizeOf92 rfl rfl) rfl ?_
              refine WH_nil ?_
              refine F_q (i := 26) rfl (by kernel_rfl) ?_
              refine WH_load (.slice _ _ _) Hvac.isAgg92 rfl (Hb.h (by repeat (first | assumption | exact Hb.newY _ _ | refine Hb.alloc ?_ | refine Hb.drew ?_ | refine Hb.ext (by assumption) ?_ | exact Hb.setSameL (by first | omega | (simp only [size_alloc, size_setB, size_drew]; omega)) | exact Hb.setSame (by assumption) | refine Hb.set (by first | omega | (simp only [size_alloc, size_setB, size_drew]; omega)) ?_ ))) (Ce.h (by first | assumption | exact ⟨rfl⟩)) ?_
              refine WH_nil ?_
              refine F_fork1 (i := 27) rfl rfl ?_ ?_
              · refine WH_call Hvac.call37 (by rfl) (Ret.mono (small_spec2 _ (OmB.ext hO (by repeat (first | assumption | exact Ext.refl _ | refine Ext.alloc ?_ _ | refine Ext.drew ?_ | refine Ext.setB ?_ (by first | omega | (simp only [size_alloc, size_setB, size_drew]; omega)) _ | exact Ext.trans (by assumption) (by assumption) | refine Ext.trans ?_ (by assumption)))) _ _ _ _ (by first | exact NN.nil _ | assumption | exact NN.ext (by assumption) (by repeat (first | assumption | exact Ext.refl _ | refine Ext.alloc ?_ _ | refine Ext.drew ?_ | refine Ext.setB ?_ (by first | omega | (simp only [size_alloc, size_setB, size_drew]; omega)) _ | exact Ext.trans (by assumption) (by assumption) | refine Ext.trans ?_ (by assumption)))) (by first | assumption | omega | (rw [sz_zero]; omega))) ?_)
                rintro _ w37_9 ⟨hE37_9, rfl⟩
                refine ⟨fun _ => (by repeat (first | assumption | exact Ext.refl _ | refine Ext.alloc ?_ _ | refine Ext.drew ?_ | refine Ext.setB ?_ (by first | omega | (simp only [size_alloc, size_setB, size_drew]; omega)) _ | exact Ext.trans (by assumption) (by assumption) | refine Ext.trans ?_ (by assumption))), ?_⟩
                have hz37_9 := hE37_9.1
                try simp only [size_alloc, size_setB, size_drew] at hz37_9
                refine WH_nil ?_
                refine F_q (i := 28) rfl (by kernel_rfl) ?_
                refine WH_p (PS_move_ptr rfl) rfl ?_
                refine WH_nil ?_
                refine F_q (i := 29) rfl (by kernel_rfl) ?_
                refine WH_p (PS_nilCheck rfl) rfl ?_
                refine WH_nil ?_
                refine F_q (i := 30) rfl (by kernel_rfl) ?_
                refine WH_p (PS_fieldAddr 12 Hvac.runUnderlying121 rfl Hvac.sizeOf25 rfl rfl) rfl ?_
                refine WH_nil ?_
                refine F_q (i := 31) rfl (by kernel_rfl) ?_
                refine WH_loadA _ Hvac.isAgg25 Hvac.sizeOf25 rfl (Hb.h (by repeat (first | assumption | exact Hb.newY _ _ | refine Hb.alloc ?_ | refine Hb.drew ?_ | refine Hb.ext (by assumption) ?_ | exact Hb.setSameL (by first | omega | (simp only [size_alloc, size_setB, size_drew]; omega)) | exact Hb.setSame (by assumption) | refine Hb.set (by first | omega | (simp only [size_alloc, size_setB, size_drew]; omega)) ?_ ))) (by first | omega | assumption | rfl | decide | exact Nat.le_refl _ | (simp only [size_ic, Value.cells]; omega) | (simp [encWs]; done) | (simp; omega) | simp | exact encYA_sz (by assumption) | exact encYT_sz (by assumption) | exact encYM_sz (by assumption)) (Xt.h (by first | assumption | exact Xt.whole rfl rfl | exact Xt.whole rfl (by assumption) | exact Xt.whole rfl (by simp only [size_ic, Value.cells]; omega) | exact ⟨rfl⟩)) ?_
                refine WH_nil ?_
                refine F_q (i := 32) rfl (by kernel_rfl) ?_
                refine WH_p (PS_move_ptr rfl) rfl ?_
                refine WH_nil ?_
                refine F_q (i := 33) rfl (by kernel_rfl) ?_
                refine WH_p (PS_nilCheck rfl) rfl ?_
                refine WH_nil ?_
                refine F_q (i := 34) rfl (by kernel_rfl) ?_
                refine WH_p (PS_fieldAddr 32 Hvac.runUnderlying121 rfl Hvac.sizeOf25 rfl rfl) rfl ?_
                refine WH_nil ?_
                refine F_q (i := 35) rfl (by kernel_rfl) ?_
                refine WH_loadA _ Hvac.isAgg25 Hvac.sizeOf25 rfl (Hb.h (by repeat (first | assumption | exact Hb.newY _ _ | refine Hb.alloc ?_ | refine Hb.drew ?_ | refine Hb.ext (by assumption) ?_ | exact Hb.setSameL (by first | omega | (simp only [size_alloc, size_setB, size_drew]; omega)) | exact Hb.setSame (by assumption) | refine Hb.set (by first | omega | (simp only [size_alloc, size_setB, size_drew]; omega)) ?_ ))) (by first | omega | assumption | rfl | decide | exact Nat.le_refl _ | (simp only [size_ic, Value.cells]; omega) | (simp [encWs]; done) | (simp; omega) | simp | exact encYA_sz (by assumption) | exact encYT_sz (by assumption) | exact encYM_sz (by assumption)) (Xt.h (by first | assumption | exact Xt.whole rfl rfl | exact Xt.whole rfl (by assumption) | exact Xt.whole rfl (by simp only [size_ic, Value.cells]; omega) | exact ⟨rfl⟩)) ?_
                refine WH_nil ?_
                refine F_q (i := 36) rfl (by kernel_rfl) ?_
                refine WH_p (PS_move_ptr rfl) rfl ?_
                refine WH_nil ?_
                refine F_q (i := 37) rfl (by kernel_rfl) ?_
                refine WH_p (PS_nilCheck rfl) rfl ?_
                refine WH_nil ?_
                refine F_q (i := 38) rfl (by kernel_rfl) ?_
                refine WH_p (PS_fieldAddr 9 Hvac.runUnderlying121 rfl Hvac.sizeOf32 rfl rfl) rfl ?_
                refine WH_nil ?_
                refine F_q (i := 39) rfl (by kernel_rfl) ?_
                refine WH_load (.slice _ _ _) Hvac.isAgg32 rfl (Hb.h (by repeat (first | assumption | exact Hb.newY _ _ | refine Hb.alloc ?_ | refine Hb.drew ?_ | refine Hb.ext (by assumption) ?_ | exact Hb.setSameL (by first | omega | (simp only [size_alloc, size_setB, size_drew]; omega)) | exact Hb.setSame (by assumption) | refine Hb.set (by first | omega | (simp only [size_alloc, size_setB, size_drew]; omega)) ?_ ))) (Ce.h (by first | assumption | exact ⟨rfl⟩)) ?_
                refine WH_nil ?_
                refine F_fork1 (i := 40) rfl rfl ?_ ?_
                · refine WH_call Hvac.call31 (by rfl) (Ret.mono (yBytesOf_spec _ (OmB.ext hO (by repeat (first | assumption | exact Ext.refl _ | refine Ext.alloc ?_ _ | refine Ext.drew ?_ | refine Ext.setB ?_ (by first | omega | (simp only [size_alloc, size_setB, size_drew]; omega)) _ | exact Ext.trans (by assumption) (by assumption) | refine Ext.trans ?_ (by assumption)))) xf.mem.1 xf.mem.2.1 xf.mem.2.2 f.mem (AB.ext hmAB (by repeat (first | assumption | exact Ext.refl _ | refine Ext.alloc ?_ _ | refine Ext.drew ?_ | refine Ext.setB ?_ (by first | omega | (simp only [size_alloc, size_setB, size_drew]; omega)) _ | exact Ext.trans (by assumption) (by assumption) | refine Ext.trans ?_ (by assumption)))) (by omega)) ?_)
                  rintro _ w31_10 ⟨hE31_10, s9, rfl, hN9⟩
                  refine ⟨fun _ => (by repeat (first | assumption | exact Ext.refl _ | refine Ext.alloc ?_ _ | refine Ext.drew ?_ | refine Ext.setB ?_ (by first | omega | (simp only [size_alloc, size_setB, size_drew]; omega)) _ | exact Ext.trans (by assumption) (by assumption) | refine Ext.trans ?_ (by assumption))), ?_⟩
                  have hz31_10 := hE31_10.1
                  try simp only [size_alloc, size_setB, size_drew] at hz31_10
                  refine WH_nil ?_
                  refine F_q (i := 41) rfl (by kernel_rfl) ?_
                  refine WH_p (PS_move_ptr rfl) rfl ?_
                  refine WH_nil ?_
                  refine F_q (i := 42) rfl (by kernel_rfl) ?_
                  refine WH_p (PS_nilCheck rfl) rfl ?_
                  refine WH_nil ?_
                  refine F_q (i := 43) rfl (by kernel_rfl) ?_
                  refine WH_p (PS_fieldAddr 10 Hvac.runUnderlying99 rfl Hvac.sizeOf32 rfl rfl) rfl ?_
                  refine WH_nil ?_
                  refine F_q (i := 44) rfl (by kernel_rfl) ?_
                  refine WH_load (.slice _ _ _) Hvac.isAgg32 rfl (Hb.h (by repeat (first | assumption | exact Hb.newY _ _ | refine Hb.alloc ?_ | refine Hb.drew ?_ | refine Hb.ext (by assumption) ?_ | exact Hb.setSameL (by first | omega | (simp only [size_alloc, size_setB, size_drew]; omega)) | exact Hb.setSame (by assumption) | refine Hb.set (by first | omega | (simp only [size_alloc, size_setB, size_drew]; omega)) ?_ ))) (Ce.h (by first | assumption | exact ⟨rfl⟩)) ?_
                  refine WH_nil ?_
                  refine F_fork1 (i := 45) rfl rfl ?_ ?_
                  · refine WH_call Hvac.call31 (by rfl) (Ret.mono (yBytesOf_spec _ (OmB.ext hO (by repeat (first | assumption | exact Ext.refl _ | refine Ext.alloc ?_ _ | refine Ext.drew ?_ | refine Ext.setB ?_ (by first | omega | (simp only [size_alloc, size_setB, size_drew]; omega)) _ | exact Ext.trans (by assumption) (by assumption) | refine Ext.trans ?_ (by assumption)))) x.ret.1 x.ret.2.1 x.ret.2.2 y.ret (PB.ab (PB.ext hPrt (by repeat (first | assumption | exact Ext.refl _ | refine Ext.alloc ?_ _ | refine Ext.drew ?_ | refine Ext.setB ?_ (by first | omega | (simp only [size_alloc, size_setB, size_drew]; omega)) _ | exact Ext.trans (by assumption) (by assumption) | refine Ext.trans ?_ (by assumption))))) (by omega)) ?_)
                    rintro _ w31_11 ⟨hE31_11, s10, rfl, hN10⟩
                    refine ⟨fun _ => (by repeat (first | assumption | exact Ext.refl _ | refine Ext.alloc ?_ _ | refine Ext.drew ?_ | refine Ext.setB ?_ (by first | omega | (simp only [size_alloc, size_setB, size_drew]; omega)) _ | exact Ext.trans (by assumption) (by assumption) | refine Ext.trans ?_ (by assumption))), ?_⟩
                    have hz31_11 := hE31_11.1
                    try simp only [size_alloc, size_setB, size_drew] at hz31_11
                    refine WH_nil ?_
                    refine F_q (i := 46) rfl (by kernel_rfl) ?_
                    refine WH_p (PS_move_ptr rfl) rfl ?_
                    refine WH_nil ?_
                    refine F_q (i := 47) rfl (by kernel_rfl) ?_
                    refine WH_p (PS_nilCheck rfl) rfl ?_
                    refine WH_nil ?_
                    refine F_q (i := 48) rfl (by kernel_rfl) ?_
                    refine WH_p (PS_fieldAddr 0 Hvac.runUnderlying99 rfl Hvac.sizeOf95 rfl rfl) rfl ?_
                    refine WH_nil ?_
                    refine F_q (i := 49) rfl (by kernel_rfl) ?_
                    refine WH_p (PS_fieldAddr 4 Hvac.runUnderlying95 rfl Hvac.sizeOf76 rfl rfl) rfl ?_
                    refine WH_nil ?_
                    refine F_q (i := 50) rfl (by kernel_rfl) ?_
                    refine WH_load (.slice _ _ _) Hvac.isAgg76 rfl (Hb.h (by repeat (first | assumption | exact Hb.newY _ _ | refine Hb.alloc ?_ | refine Hb.drew ?_ | refine Hb.ext (by assumption) ?_ | exact Hb.setSameL (by first | omega | (simp only [size_alloc, size_setB, size_drew]; omega)) | exact Hb.setSame (by assumption) | refine Hb.set (by first | omega | (simp only [size_alloc, size_setB, size_drew]; omega)) ?_ ))) (Ce.h (by first | assumption | exact ⟨rfl⟩)) ?_
                    refine WH_nil ?_
                    refine F_q (i := 51) rfl (by kernel_rfl) ?_
                    refine WH_p (PS_lenS Hvac.runUnderlying76 rfl) rfl ?_
                    refine WH_nil ?_
                    refine F_q (i := 52) rfl (by kernel_rfl) ?_
                    refine WH_p (PS_conv_u16n Hvac.runUnderlying3 Hvac.runUnderlying42 rfl (by omega) (by omega)) rfl ?_
                    refine WH_nil ?_
                    refine F_q (i := 53) rfl (by kernel_rfl) ?_
                    refine WH_p (PS_b44_r rfl rfl rfl rfl rfl rfl hsbl rfl hsbl2 rfl rfl rfl) rfl ?_
                    rw [show (((rest.length + 1 : Nat) : Int) - 1) = (rest.length : Int) by omega, show ((s9.1, s9.2.1, s9.2.2) : SV) = s9 from rfl, show ((s10.1, s10.2.1, s10.2.2) : SV) = s10 from rfl]
                    have hszv : (encVw ⟨false, f.statY, rest.length, ysmall f.pc, ysmall f.gas, ysmall y.now.ref, f.self, f.caller, (none, 0, 0), s9, s10, y.now.nlogs⟩).toArray.size = 50 := encVw_sz hsbl hsbl2
                    have honev := one_Vw ⟨false, f.statY, rest.length, ysmall f.pc, ysmall f.gas, ysmall y.now.ref, f.self, f.caller, (none, 0, 0), s9, s10, y.now.nlogs⟩
                    refine WH_nil ?_
                    refine F_fork1B (i := 55) (by kernel_rfl) rfl ?_
                    · refine WH_allocG Hvac.zeroValue44 ?_
                      intro b5 v5 hg5 hE5 hH5 hl5
                      try simp only [size_alloc, size_setB, size_drew] at hg5
                      have hzz5 := hE5.1
                      try simp only [size_alloc, size_setB, size_drew] at hzz5
                      replace hH5 : Hb v5 b5 (.cells ((encVw vw0).toArray) 44 (0, 0)) := hH5
                      refine ⟨fun _ => (by repeat (first | assumption | exact Ext.refl _ | refine Ext.alloc ?_ _ | refine Ext.drew ?_ | refine Ext.setB ?_ (by first | omega | (simp only [size_alloc, size_setB, size_drew]; omega)) _ | exact Ext.trans (by assumption) (by assumption) | refine Ext.trans ?_ (by assumption))), ?_⟩
                      refine WH_nil ?_
                      refine F_q (i := 55) rfl (by kernel_rfl) ?_
                      first | refine WH_storeW Hvac.sizeOf44 rfl (v := .agg _) rfl (Hb.h (by repeat (first | assumption | exact Hb.newY _ _ | refine Hb.alloc ?_ | refine Hb.drew ?_ | refine Hb.ext (by assumption) ?_ | exact Hb.setSameL (by first | omega | (simp only [size_alloc, size_setB, size_drew]; omega)) | exact Hb.setSame (by assumption) | refine Hb.set (by first | omega | (simp only [size_alloc, size_setB, size_drew]; omega)) ?_ ))) rfl (by first | omega | assumption | rfl | decide | exact Nat.le_refl _ | (simp only [size_ic, Value.cells]; omega) | (simp [encWs]; done) | (simp; omega) | simp | exact encYA_sz (by assumption) | exact encYT_sz (by assumption) | exact encYM_sz (by assumption)) (by first | omega | assumption | rfl | decide | exact Nat.le_refl _ | (simp only [size_ic, Value.cells]; omega) | (simp [encWs]; done) | (simp; omega) | simp | exact encYA_sz (by assumption) | exact encYT_sz (by assumption) | exact encYM_sz (by assumption)) (by first | exact oneCell_ic | assumption | exact one_Ws2 _ | exact one_YA2 _ | exact one_YSl2 _ | exact one_YM2 _ | exact one_YT2 _ | exact one_L2 _) (fun h => by cases h) ?_ | refine WH_store Hvac.sizeOf44 rfl (v := .agg _) rfl (Hb.h (by repeat (first | assumption | exact Hb.newY _ _ | refine Hb.alloc ?_ | refine Hb.drew ?_ | refine Hb.ext (by assumption) ?_ | exact Hb.setSameL (by first | omega | (simp only [size_alloc, size_setB, size_drew]; omega)) | exact Hb.setSame (by assumption) | refine Hb.set (by first | omega | (simp only [size_alloc, size_setB, size_drew]; omega)) ?_ ))) (by first | omega | assumption | rfl | decide | exact Nat.le_refl _ | (simp only [size_ic, Value.cells]; omega) | (simp [encWs]; done) | (simp; omega) | simp | exact encYA_sz (by assumption) | exact encYT_sz (by assumption) | exact encYM_sz (by assumption)) (by first | omega | assumption | rfl | decide | exact Nat.le_refl _ | (simp only [size_ic, Value.cells]; omega) | (simp [encWs]; done) | (simp; omega) | simp | exact encYA_sz (by assumption) | exact encYT_sz (by assumption) | exact encYM_sz (by assumption)) (by first | exact oneCell_ic | assumption | exact one_Ws2 _ | exact one_YA2 _ | exact one_YSl2 _ | exact one_YM2 _ | exact one_YT2 _ | exact one_L2 _) (fun h => by cases h) ?_
                      refine WH_nil ?_
                      refine F_end ?_
                      refine thn_normal ?_
                      exact ⟨b5, s9, s10, ⟨rfl, rfl, rfl, trivial⟩, (by repeat (first | assumption | exact Ext.refl _ | refine Ext.alloc ?_ _ | refine Ext.drew ?_ | refine Ext.setB ?_ (by first | omega | (simp only [size_alloc, size_setB, size_drew]; omega)) _ | exact Ext.trans (by assumption) (by assumption) | refine Ext.trans ?_ (by assumption))), by omega, by omega, Hb.mk (Hb.h (by repeat (first | assumption | exact Hb.newY _ _ | refine Hb.alloc ?_ | refine Hb.drew ?_ | refine Hb.ext (by assumption) ?_ | exact Hb.setSameL (by first | omega | (simp only [size_alloc, size_setB, size_drew]; omega)) | exact Hb.setSame (by assumption) | refine Hb.set (by first | omega | (simp only [size_alloc, size_setB, size_drew]; omega)) ?_ ))), Hb.mk (Hb.h (by repeat (first | assumption | exact Hb.newY _ _ | refine Hb.alloc ?_ | refine Hb.drew ?_ | refine Hb.ext (by assumption) ?_ | exact Hb.setSameL (by first | omega | (simp only [size_alloc, size_setB, size_drew]; omega)) | exact Hb.setSame (by assumption) | refine Hb.set (by first | omega | (simp only [size_alloc, size_setB, size_drew]; omega)) ?_ ))), (by first | (refine PB.ext hN9 ?_; (repeat (first | assumption | exact Ext.refl _ | refine Ext.alloc ?_ _ | refine Ext.drew ?_ | refine Ext.setB ?_ (by first | omega | (simp only [size_alloc, size_setB, size_drew]; omega)) _ | refine Ext.trans ?_ (by assumption))); done) | exact PB.b44 hN9 (Hb.mk (Hb.h (by repeat (first | assumption | exact Hb.newY _ _ | refine Hb.alloc ?_ | refine Hb.drew ?_ | refine Hb.ext (by assumption) ?_ | exact Hb.setSameL (by first | omega | (simp only [size_alloc, size_setB, size_drew]; omega)) | exact Hb.setSame (by assumption) | refine Hb.set (by first | omega | (simp only [size_alloc, size_setB, size_drew]; omega)) ?_ )))) | exact PB.b44 (PB.ext hN9 (by repeat (first | assumption | exact Ext.refl _ | refine Ext.alloc ?_ _ | refine Ext.drew ?_ | refine Ext.setB ?_ (by first | omega | (simp only [size_alloc, size_setB, size_drew]; omega)) _ | exact Ext.trans (by assumption) (by assumption) | refine Ext.trans ?_ (by assumption)))) (Hb.mk (Hb.h (by repeat (first | assumption | exact Hb.newY _ _ | refine Hb.alloc ?_ | refine Hb.drew ?_ | refine Hb.ext (by assumption) ?_ | exact Hb.setSameL (by first | omega | (simp only [size_alloc, size_setB, size_drew]; omega)) | exact Hb.setSame (by assumption) | refine Hb.set (by first | omega | (simp only [size_alloc, size_setB, size_drew]; omega)) ?_ ))))), (by first | (refine PB.ext hN10 ?_; (repeat (first | assumption | exact Ext.refl _ | refine Ext.alloc ?_ _ | refine Ext.drew ?_ | refine Ext.setB ?_ (by first | omega | (simp only [size_alloc, size_setB, size_drew]; omega)) _ | refine Ext.trans ?_ (by assumption))); done) | exact PB.b44 hN10 (Hb.mk (Hb.h (by repeat (first | assumption | exact Hb.newY _ _ | refine Hb.alloc ?_ | refine Hb.drew ?_ | refine Hb.ext (by assumption) ?_ | exact Hb.setSameL (by first | omega | (simp only [size_alloc, size_setB, size_drew]; omega)) | exact Hb.setSame (by assumption) | refine Hb.set (by first | omega | (simp only [size_alloc, size_setB, size_drew]; omega)) ?_ )))) | exact PB.b44 (PB.ext hN10 (by repeat (first | assumption | exact Ext.refl _ | refine Ext.alloc ?_ _ | refine Ext.drew ?_ | refine Ext.setB ?_ (by first | omega | (simp only [size_alloc, size_setB, size_drew]; omega)) _ | exact Ext.trans (by assumption) (by assumption) | refine Ext.trans ?_ (by assumption)))) (Hb.mk (Hb.h (by repeat (first | assumption | exact Hb.newY _ _ | refine Hb.alloc ?_ | refine Hb.drew ?_ | refine Hb.ext (by assumption) ?_ | exact Hb.setSameL (by first | omega | (simp only [size_alloc, size_setB, size_drew]; omega)) | exact Hb.setSame (by assumption) | refine Hb.set (by first | omega | (simp only [size_alloc, size_setB, size_drew]; omega)) ?_ )))))⟩
                  · refine WH_allocG Hvac.zeroValue44 ?_
                    intro b5 v5 hg5 hE5 hH5 hl5
                    try simp only [size_alloc, size_setB, size_drew] at hg5
                    have hzz5 := hE5.1
                    try simp only [size_alloc, size_setB, size_drew] at hzz5
                    replace hH5 : Hb v5 b5 (.cells ((encVw vw0).toArray) 44 (0, 0)) := hH5
                    refine ⟨fun _ => (by repeat (first | assumption | exact Ext.refl _ | refine Ext.alloc ?_ _ | refine Ext.drew ?_ | refine Ext.setB ?_ (by first | omega | (simp only [size_alloc, size_setB, size_drew]; omega)) _ | exact Ext.trans (by assumption) (by assumption) | refine Ext.trans ?_ (by assumption))), ?_⟩
                    refine WH_nil ?_
                    refine F_q (i := 45) rfl (by kernel_rfl) ?_
                    refine WH_call Hvac.call31 (by rfl) (Ret.mono (yBytesOf_spec _ (OmB.ext hO (by repeat (first | assumption | exact Ext.refl _ | refine Ext.alloc ?_ _ | refine Ext.drew ?_ | refine Ext.setB ?_ (by first | omega | (simp only [size_alloc, size_setB, size_drew]; omega)) _ | exact Ext.trans (by assumption) (by assumption) | refine Ext.trans ?_ (by assumption)))) x.ret.1 x.ret.2.1 x.ret.2.2 y.ret (PB.ab (PB.ext hPrt (by repeat (first | assumption | exact Ext.refl _ | refine Ext.alloc ?_ _ | refine Ext.drew ?_ | refine Ext.setB ?_ (by first | omega | (simp only [size_alloc, size_setB, size_drew]; omega)) _ | exact Ext.trans (by assumption) (by assumption) | refine Ext.trans ?_ (by assumption))))) (by omega)) ?_)
                    rintro _ w31_12 ⟨hE31_12, s10, rfl, hN10⟩
                    refine ⟨fun _ => (by repeat (first | assumption | exact Ext.refl _ | refine Ext.alloc ?_ _ | refine Ext.drew ?_ | refine Ext.setB ?_ (by first | omega | (simp only [size_alloc, size_setB, size_drew]; omega)) _ | exact Ext.trans (by assumption) (by assumption) | refine Ext.trans ?_ (by assumption))), ?_⟩
                    have hz31_12 := hE31_12.1
                    try simp only [size_alloc, size_setB, size_drew] at hz31_12
                    refine WH_nil ?_
                    refine F_q (i := 46) rfl (by kernel_rfl) ?_
                    refine WH_p (PS_move_ptr rfl) rfl ?_
                    refine WH_nil ?_
                    refine F_q (i := 47) rfl (by kernel_rfl) ?_
                    refine WH_p (PS_nilCheck rfl) rfl ?_
                    refine WH_nil ?_
                    refine F_q (i := 48) rfl (by kernel_rfl) ?_
                    refine WH_p (PS_fieldAddr 0 Hvac.runUnderlying99 rfl Hvac.sizeOf95 rfl rfl) rfl ?_
                    refine WH_nil ?_
                    refine F_q (i := 49) rfl (by kernel_rfl) ?_
                    refine WH_p (PS_fieldAddr 4 Hvac.runUnderlying95 rfl Hvac.sizeOf76 rfl rfl) rfl ?_
                    refine WH_nil ?_
                    refine F_q (i := 50) rfl (by kernel_rfl) ?_
                    refine WH_load (.slice _ _ _) Hvac.isAgg76 rfl (Hb.h (by repeat (first | assumption | exact Hb.newY _ _ | refine Hb.alloc ?_ | refine Hb.drew ?_ | refine Hb.ext (by assumption) ?_ | exact Hb.setSameL (by first | omega | (simp only [size_alloc, size_setB, size_drew]; omega)) | exact Hb.setSame (by assumption) | refine Hb.set (by first | omega | (simp only [size_alloc, size_setB, size_drew]; omega)) ?_ ))) (Ce.h (by first | assumption | exact ⟨rfl⟩)) ?_
                    refine WH_nil ?_
                    refine F_q (i := 51) rfl (by kernel_rfl) ?_
                    refine WH_p (PS_lenS Hvac.runUnderlying76 rfl) rfl ?_
                    refine WH_nil ?_
                    refine F_q (i := 52) rfl (by kernel_rfl) ?_
                    refine WH_p (PS_conv_u16n Hvac.runUnderlying3 Hvac.runUnderlying42 rfl (by omega) (by omega)) rfl ?_
                    refine WH_nil ?_
                    refine F_q (i := 53) rfl (by kernel_rfl) ?_
                    refine WH_p (PS_b44_r rfl rfl rfl rfl rfl rfl hsbl rfl hsbl2 rfl rfl rfl) rfl ?_
                    rw [show (((rest.length + 1 : Nat) : Int) - 1) = (rest.length : Int) by omega, show ((s9.1, s9.2.1, s9.2.2) : SV) = s9 from rfl, show ((s10.1, s10.2.1, s10.2.2) : SV) = s10 from rfl]
                    have hszv : (encVw ⟨false, f.statY, rest.length, ysmall f.pc, ysmall f.gas, ysmall y.now.ref, f.self, f.caller, (none, 0, 0), s9, s10, y.now.nlogs⟩).toArray.size = 50 := encVw_sz hsbl hsbl2
                    have honev := one_Vw ⟨false, f.statY, rest.length, ysmall f.pc, ysmall f.gas, ysmall y.now.ref, f.self, f.caller, (none, 0, 0), s9, s10, y.now.nlogs⟩
                    refine WH_nil ?_
                    refine F_q (i := 55) rfl (by kernel_rfl) ?_
                    first | refine WH_storeW Hvac.sizeOf44 rfl (v := .agg _) rfl (Hb.h (by repeat (first | assumption | exact Hb.newY _ _ | refine Hb.alloc ?_ | refine Hb.drew ?_ | refine Hb.ext (by assumption) ?_ | exact Hb.setSameL (by first | omega | (simp only [size_alloc, size_setB, size_drew]; omega)) | exact Hb.setSame (by assumption) | refine Hb.set (by first | omega | (simp only [size_alloc, size_setB, size_drew]; omega)) ?_ ))) rfl (by first | omega | assumption | rfl | decide | exact Nat.le_refl _ | (simp only [size_ic, Value.cells]; omega) | (simp [encWs]; done) | (simp; omega) | simp | exact encYA_sz (by assumption) | exact encYT_sz (by assumption) | exact encYM_sz (by assumption)) (by first | omega | assumption | rfl | decide | exact Nat.le_refl _ | (simp only [size_ic, Value.cells]; omega) | (simp [encWs]; done) | (simp; omega) | simp | exact encYA_sz (by assumption) | exact encYT_sz (by assumption) | exact encYM_sz (by assumption)) (by first | exact oneCell_ic | assumption | exact one_Ws2 _ | exact one_YA2 _ | exact one_YSl2 _ | exact one_YM2 _ | exact one_YT2 _ | exact one_L2 _) (fun h => by cases h) ?_ | refine WH_store Hvac.sizeOf44 rfl (v := .agg _) rfl (Hb.h (by repeat (first | assumption | exact Hb.newY _ _ | refine Hb.alloc ?_ | refine Hb.drew ?_ | refine Hb.ext (by assumption) ?_ | exact Hb.setSameL (by first | omega | (simp only [size_alloc, size_setB, size_drew]; omega)) | exact Hb.setSame (by assumption) | refine Hb.set (by first | omega | (simp only [size_alloc, size_setB, size_drew]; omega)) ?_ ))) (by first | omega | assumption | rfl | decide | exact Nat.le_refl _ | (simp only [size_ic, Value.cells]; omega) | (simp [encWs]; done) | (simp; omega) | simp | exact encYA_sz (by assumption) | exact encYT_sz (by assumption) | exact encYM_sz (by assumption)) (by first | omega | assumption | rfl | decide | exact Nat.le_refl _ | (simp only [size_ic, Value.cells]; omega) | (simp [encWs]; done) | (simp; omega) | simp | exact encYA_sz (by assumption) | exact encYT_sz (by assumption) | exact encYM_sz (by assumption)) (by first | exact oneCell_ic | assumption | exact one_Ws2 _ | exact one_YA2 _ | exact one_YSl2 _ | exact one_YM2 _ | exact one_YT2 _ | exact one_L2 _) (fun h => by cases h) ?_
                    refine WH_nil ?_
                    refine F_end ?_
                    refine thn_normal ?_
                    exact ⟨b5, s9, s10, ⟨rfl, rfl, rfl, trivial⟩, (by repeat (first | assumption | exact Ext.refl _ | refine Ext.alloc ?_ _ | refine Ext.drew ?_ | refine Ext.setB ?_ (by first | omega | (simp only [size_alloc, size_setB, size_drew]; omega)) _ | exact Ext.trans (by assumption) (by assumption) | refine Ext.trans ?_ (by assumption))), by omega, by omega, Hb.mk (Hb.h (by repeat (first | assumption | exact Hb.newY _ _ | refine Hb.alloc ?_ | refine Hb.drew ?_ | refine Hb.ext (by assumption) ?_ | exact Hb.setSameL (by first | omega | (simp only [size_alloc, size_setB, size_drew]; omega)) | exact Hb.setSame (by assumption) | refine Hb.set (by first | omega | (simp only [size_alloc, size_setB, size_drew]; omega)) ?_ ))), Hb.mk (Hb.h (by repeat (first | assumption | exact Hb.newY _ _ | refine Hb.alloc ?_ | refine Hb.drew ?_ | refine Hb.ext (by assumption) ?_ | exact Hb.setSameL (by first | omega | (simp only [size_alloc, size_setB, size_drew]; omega)) | exact Hb.setSame (by assumption) | refine Hb.set (by first | omega | (simp only [size_alloc, size_setB, size_drew]; omega)) ?_ ))), (by first | (refine PB.ext hN9 ?_; (repeat (first | assumption | exact Ext.refl _ | refine Ext.alloc ?_ _ | refine Ext.drew ?_ | refine Ext.setB ?_ (by first | omega | (simp only [size_alloc, size_setB, size_drew]; omega)) _ | refine Ext.trans ?_ (by assumption))); done) | exact PB.b44 hN9 (Hb.mk (Hb.h (by repeat (first | assumption | exact Hb.newY _ _ | refine Hb.alloc ?_ | refine Hb.drew ?_ | refine Hb.ext (by assumption) ?_ | exact Hb.setSameL (by first | omega | (simp only [size_alloc, size_setB, size_drew]; omega)) | exact Hb.setSame (by assumption) | refine Hb.set (by first | omega | (simp only [size_alloc, size_setB, size_drew]; omega)) ?_ )))) | exact PB.b44 (PB.ext hN9 (by repeat (first | assumption | exact Ext.refl _ | refine Ext.alloc ?_ _ | refine Ext.drew ?_ | refine Ext.setB ?_ (by first | omega | (simp only [size_alloc, size_setB, size_drew]; omega)) _ | exact Ext.trans (by assumption) (by assumption) | refine Ext.trans ?_ (by assumption)))) (Hb.mk (Hb.h (by repeat (first | assumption | exact Hb.newY _ _ | refine Hb.alloc ?_ | refine Hb.drew ?_ | refine Hb.ext (by assumption) ?_ | exact Hb.setSameL (by first | omega | (simp only [size_alloc, size_setB, size_drew]; omega)) | exact Hb.setSame (by assumption) | refine Hb.set (by first | omega | (simp only [size_alloc, size_setB, size_drew]; omega)) ?_ ))))), (by first | (refine PB.ext hN10 ?_; (repeat (first | assumption | exact Ext.refl _ | refine Ext.alloc ?_ _ | refine Ext.drew ?_ | refine Ext.setB ?_ (by first | omega | (simp only [size_alloc, size_setB, size_drew]; omega)) _ | refine Ext.trans ?_ (by assumption))); done) | exact PB.b44 hN10 (Hb.mk (Hb.h (by repeat (first | assumption | exact Hb.newY _ _ | refine Hb.alloc ?_ | refine Hb.drew ?_ | refine Hb.ext (by assumption) ?_ | exact Hb.setSameL (by first | omega | (simp only [size_alloc, size_setB, size_drew]; omega)) | exact Hb.setSame (by assumption) | refine Hb.set (by first | omega | (simp only [size_alloc, size_setB, size_drew]; omega)) ?_ )))) | exact PB.b44 (PB.ext hN10 (by repeat (first | assumption | exact Ext.refl _ | refine Ext.alloc ?_ _ | refine Ext.drew ?_ | refine Ext.setB ?_ (by first | omega | (simp only [size_alloc, size_setB, size_drew]; omega)) _ | exact Ext.trans (by assumption) (by assumption) | refine Ext.trans ?_ (by assumption)))) (Hb.mk (Hb.h (by repeat (first | assumption | exact Hb.newY _ _ | refine Hb.alloc ?_ | refine Hb.drew ?_ | refine Hb.ext (by assumption) ?_ | exact Hb.setSameL (by first | omega | (simp only [size_alloc, size_setB, size_drew]; omega)) | exact Hb.setSame (by assumption) | refine Hb.set (by first | omega | (simp only [size_alloc, size_setB, size_drew]; omega)) ?_ )))))⟩
                · refine WH_allocG Hvac.zeroValue44 ?_
                  intro b5 v5 hg5 hE5 hH5 hl5
                  try simp only [size_alloc, size_setB, size_drew] at hg5
                  have hzz5 := hE5.1
                  try simp only [size_alloc, size_setB, size_drew] at hzz5
                  replace hH5 : Hb v5 b5 (.cells ((encVw vw0).toArray) 44 (0, 0)) := hH5
                  refine ⟨fun _ => (by repeat (first | assumption | exact Ext.refl _ | refine Ext.alloc ?_ _ | refine Ext.drew ?_ | refine Ext.setB ?_ (by first | omega | (simp only [size_alloc, size_setB, size_drew]; omega)) _ | exact Ext.trans (by assumption) (by assumption) | refine Ext.trans ?_ (by assumption))), ?_⟩
                  refine WH_nil ?_
                  refine F_q (i := 40) rfl (by kernel_rfl) ?_
                  refine WH_call Hvac.call31 (by rfl) (Ret.mono (yBytesOf_spec _ (OmB.ext hO (by repeat (first | assumption | exact Ext.refl _ | refine Ext.alloc ?_ _ | refine Ext.drew ?_ | refine Ext.setB ?_ (by first | omega | (simp only [size_alloc, size_setB, size_drew]; omega)) _ | exact Ext.trans (by assumption) (by assumption) | refine Ext.trans ?_ (by assumption)))) xf.mem.1 xf.mem.2.1 xf.mem.2.2 f.mem (AB.ext hmAB (by repeat (first | assumption | exact Ext.refl _ | refine Ext.alloc ?_ _ | refine Ext.drew ?_ | refine Ext.setB ?_ (by first | omega | (simp only [size_alloc, size_setB, size_drew]; omega)) _ | exact Ext.trans (by assumption) (by assumption) | refine Ext.trans ?_ (by assumption)))) (by omega)) ?_)
                  rintro _ w31_13 ⟨hE31_13, s9, rfl, hN9⟩
                  refine ⟨fun _ => (by repeat (first | assumption | exact Ext.refl _ | refine Ext.alloc ?_ _ | refine Ext.drew ?_ | refine Ext.setB ?_ (by first | omega | (simp only [size_alloc, size_setB, size_drew]; omega)) _ | exact Ext.trans (by assumption) (by assumption) | refine Ext.trans ?_ (by assumption))), ?_⟩
                  have hz31_13 := hE31_13.1
                  try simp only [size_alloc, size_setB, size_drew] at hz31_13
                  refine WH_nil ?_
                  refine F_q (i := 41) rfl (by kernel_rfl) ?_
                  refine WH_p (PS_move_ptr rfl) rfl ?_
                  refine WH_nil ?_
                  refine F_q (i := 42) rfl (by kernel_rfl) ?_
                  refine WH_p (PS_nilCheck rfl) rfl ?_
                  refine WH_nil ?_
                  refine F_q (i := 43) rfl (by kernel_rfl) ?_
                  refine WH_p (PS_fieldAddr 10 Hvac.runUnderlying99 rfl Hvac.sizeOf32 rfl rfl) rfl ?_
                  refine WH_nil ?_
                  refine F_q (i := 44) rfl (by kernel_rfl) ?_
                  refine WH_load (.slice _ _ _) Hvac.isAgg32 rfl (Hb.h (by repeat (first | assumption | exact Hb.newY _ _ | refine Hb.alloc ?_ | refine Hb.drew ?_ | refine Hb.ext (by assumption) ?_ | exact Hb.setSameL (by first | omega | (simp only [size_alloc, size_setB, size_drew]; omega)) | exact Hb.setSame (by assumption) | refine Hb.set (by first | omega | (simp only [size_alloc, size_setB, size_drew]; omega)) ?_ ))) (Ce.h (by first | assumption | exact ⟨rfl⟩)) ?_
                  refine WH_nil ?_
                  refine F_q (i := 45) rfl (by kernel_rfl) ?_
                  refine WH_call Hvac.call31 (by rfl) (Ret.mono (yBytesOf_spec _ (OmB.ext hO (by repeat (first | assumption | exact Ext.refl _ | refine Ext.alloc ?_ _ | refine Ext.drew ?_ | refine Ext.setB ?_ (by first | omega | (simp only [size_alloc, size_setB, size_drew]; omega)) _ | exact Ext.trans (by assumption) (by assumption) | refine Ext.trans ?_ (by assumption)))) x.ret.1 x.ret.2.1 x.ret.2.2 y.ret (PB.ab (PB.ext hPrt (by repeat (first | assumption | exact Ext.refl _ | refine Ext.alloc ?_ _ | refine Ext.drew ?_ | refine Ext.setB ?_ (by first | omega | (simp only [size_alloc, size_setB, size_drew]; omega)) _ | exact Ext.trans (by assumption) (by assumption) | refine Ext.trans ?_ (by assumption))))) (by omega)) ?_)
                  rintro _ w31_14 ⟨hE31_14, s10, rfl, hN10⟩
                  refine ⟨fun _ => (by repeat (first | assumption | exact Ext.refl _ | refine Ext.alloc ?_ _ | refine Ext.drew ?_ | refine Ext.setB ?_ (by first | omega | (simp only [size_alloc, size_setB, size_drew]; omega)) _ | exact Ext.trans (by assumption) (by assumption) | refine Ext.trans ?_ (by assumption))), ?_⟩
                  have hz31_14 := hE31_14.1
                  try simp only [size_alloc, size_setB, size_drew] at hz31_14
                  refine WH_nil ?_
                  refine F_q (i := 46) rfl (by kernel_rfl) ?_
                  refine WH_p (PS_move_ptr rfl) rfl ?_
                  refine WH_nil ?_
                  refine F_q (i := 47) rfl (by kernel_rfl) ?_
                  refine WH_p (PS_nilCheck rfl) rfl ?_
                  refine WH_nil ?_
                  refine F_q (i := 48) rfl (by kernel_rfl) ?_
                  refine WH_p (PS_fieldAddr 0 Hvac.runUnderlying99 rfl Hvac.sizeOf95 rfl rfl) rfl ?_
                  refine WH_nil ?_
                  refine F_q (i := 49) rfl (by kernel_rfl) ?_
                  refine WH_p (PS_fieldAddr 4 Hvac.runUnderlying95 rfl Hvac.sizeOf76 rfl rfl) rfl ?_
                  refine WH_nil ?_
                  refine F_q (i := 50) rfl (by kernel_rfl) ?_
                  refine WH_load (.slice _ _ _) Hvac.isAgg76 rfl (Hb.h (by repeat (first | assumption | exact Hb.newY _ _ | refine Hb.alloc ?_ | refine Hb.drew ?_ | refine Hb.ext (by assumption) ?_ | exact Hb.setSameL (by first | omega | (simp only [size_alloc, size_setB, size_drew]; omega)) | exact Hb.setSame (by assumption) | refine Hb.set (by first | omega | (simp only [size_alloc, size_setB, size_drew]; omega)) ?_ ))) (Ce.h (by first | assumption | exact ⟨rfl⟩)) ?_
                  refine WH_nil ?_
                  refine F_q (i := 51) rfl (by kernel_rfl) ?_
                  refine WH_p (PS_lenS Hvac.runUnderlying76 rfl) rfl ?_
                  refine WH_nil ?_
                  refine F_q (i := 52) rfl (by kernel_rfl) ?_
                  refine WH_p (PS_conv_u16n Hvac.runUnderlying3 Hvac.runUnderlying42 rfl (by omega) (by omega)) rfl ?_
                  refine WH_nil ?_
                  refine F_q (i := 53) rfl (by kernel_rfl) ?_
                  refine WH_p (PS_b44_r rfl rfl rfl rfl rfl rfl hsbl rfl hsbl2 rfl rfl rfl) rfl ?_
                  rw [show (((rest.length + 1 : Nat) : Int) - 1) = (rest.length : Int) by omega, show ((s9.1, s9.2.1, s9.2.2) : SV) = s9 from rfl, show ((s10.1, s10.2.1, s10.2.2) : SV) = s10 from rfl]
                  have hszv : (encVw ⟨false, f.statY, rest.length, ysmall f.pc, ysmall f.gas, ysmall y.now.ref, f.self, f.caller, (none, 0, 0), s9, s10, y.now.nlogs⟩).toArray.size = 50 := encVw_sz hsbl hsbl2
                  have honev := one_Vw ⟨false, f.statY, rest.length, ysmall f.pc, ysmall f.gas, ysmall y.now.ref, f.self, f.caller, (none, 0, 0), s9, s10, y.now.nlogs⟩
                  refine WH_nil ?_
                  refine F_q (i := 55) rfl (by kernel_rfl) ?_
                  first | refine WH_storeW Hvac.sizeOf44 rfl (v := .agg _) rfl (Hb.h (by repeat (first | assumption | exact Hb.newY _ _ | refine Hb.alloc ?_ | refine Hb.drew ?_ | refine Hb.ext (by assumption) ?_ | exact Hb.setSameL (by first | omega | (simp only [size_alloc, size_setB, size_drew]; omega)) | exact Hb.setSame (by assumption) | refine Hb.set (by first | omega | (simp only [size_alloc, size_setB, size_drew]; omega)) ?_ ))) rfl (by first | omega | assumption | rfl | decide | exact Nat.le_refl _ | (simp only [size_ic, Value.cells]; omega) | (simp [encWs]; done) | (simp; omega) | simp | exact encYA_sz (by assumption) | exact encYT_sz (by assumption) | exact encYM_sz (by assumption)) (by first | omega | assumption | rfl | decide | exact Nat.le_refl _ | (simp only [size_ic, Value.cells]; omega) | (simp [encWs]; done) | (simp; omega) | simp | exact encYA_sz (by assumption) | exact encYT_sz (by assumption) | exact encYM_sz (by assumption)) (by first | exact oneCell_ic | assumption | exact one_Ws2 _ | exact one_YA2 _ | exact one_YSl2 _ | exact one_YM2 _ | exact one_YT2 _ | exact one_L2 _) (fun h => by cases h) ?_ | refine WH_store Hvac.sizeOf44 rfl (v := .agg _) rfl (Hb.h (by repeat (first | assumption | exact Hb.newY _ _ | refine Hb.alloc ?_ | refine Hb.drew ?_ | refine Hb.ext (by assumption) ?_ | exact Hb.setSameL (by first | omega | (simp only [size_alloc, size_setB, size_drew]; omega)) | exact Hb.setSame (by assumption) | refine Hb.set (by first | omega | (simp only [size_alloc, size_setB, size_drew]; omega)) ?_ ))) (by first | omega | assumption | rfl | decide | exact Nat.le_refl _ | (simp only [size_ic, Value.cells]; omega) | (simp [encWs]; done) | (simp; omega) | simp | exact encYA_sz (by assumption) | exact encYT_sz (by assumption) | exact encYM_sz (by assumption)) (by first | omega | assumption | rfl | decide | exact Nat.le_refl _ | (simp only [size_ic, Value.cells]; omega) | (simp [encWs]; done) | (simp; omega) | simp | exact encYA_sz (by assumption) | exact encYT_sz (by assumption) | exact encYM_sz (by assumption)) (by first | exact oneCell_ic | assumption | exact one_Ws2 _ | exact one_YA2 _ | exact one_YSl2 _ | exact one_YM2 _ | exact one_YT2 _ | exact one_L2 _) (fun h => by cases h) ?_
                  refine WH_nil ?_
                  refine F_end ?_
                  refine thn_normal ?_
                  exact ⟨b5, s9, s10, ⟨rfl, rfl, rfl, trivial⟩, (by repeat (first | assumption | exact Ext.refl _ | refine Ext.alloc ?_ _ | refine Ext.drew ?_ | refine Ext.setB ?_ (by first | omega | (simp only [size_alloc, size_setB, size_drew]; omega)) _ | exact Ext.trans (by assumption) (by assumption) | refine Ext.trans ?_ (by assumption))), by omega, by omega, Hb.mk (Hb.h (by repeat (first | assumption | exact Hb.newY _ _ | refine Hb.alloc ?_ | refine Hb.drew ?_ | refine Hb.ext (by assumption) ?_ | exact Hb.setSameL (by first | omega | (simp only [size_alloc, size_setB, size_drew]; omega)) | exact Hb.setSame (by assumption) | refine Hb.set (by first | omega | (simp only [size_alloc, size_setB, size_drew]; omega)) ?_ ))), Hb.mk (Hb.h (by repeat (first | assumption | exact Hb.newY _ _ | refine Hb.alloc ?_ | refine Hb.drew ?_ | refine Hb.ext (by assumption) ?_ | exact Hb.setSameL (by first | omega | (simp only [size_alloc, size_setB, size_drew]; omega)) | exact Hb.setSame (by assumption) | refine Hb.set (by first | omega | (simp only [size_alloc, size_setB, size_drew]; omega)) ?_ ))), (by first | (refine PB.ext hN9 ?_; (repeat (first | assumption | exact Ext.refl _ | refine Ext.alloc ?_ _ | refine Ext.drew ?_ | refine Ext.setB ?_ (by first | omega | (simp only [size_alloc, size_setB, size_drew]; omega)) _ | refine Ext.trans ?_ (by assumption))); done) | exact PB.b44 hN9 (Hb.mk (Hb.h (by repeat (first | assumption | exact Hb.newY _ _ | refine Hb.alloc ?_ | refine Hb.drew ?_ | refine Hb.ext (by assumption) ?_ | exact Hb.setSameL (by first | omega | (simp only [size_alloc, size_setB, size_drew]; omega)) | exact Hb.setSame (by assumption) | refine Hb.set (by first | omega | (simp only [size_alloc, size_setB, size_drew]; omega)) ?_ )))) | exact PB.b44 (PB.ext hN9 (by repeat (first | assumption | exact Ext.refl _ | refine Ext.alloc ?_ _ | refine Ext.drew ?_ | refine Ext.setB ?_ (by first | omega | (simp only [size_alloc, size_setB, size_drew]; omega)) _ | exact Ext.trans (by assumption) (by assumption) | refine Ext.trans ?_ (by assumption)))) (Hb.mk (Hb.h (by repeat (first | assumption | exact Hb.newY _ _ | refine Hb.alloc ?_ | refine Hb.drew ?_ | refine Hb.ext (by assumption) ?_ | exact Hb.setSameL (by first | omega | (simp only [size_alloc, size_setB, size_drew]; omega)) | exact Hb.setSame (by assumption) | refine Hb.set (by first | omega | (simp only [size_alloc, size_setB, size_drew]; omega)) ?_ ))))), (by first | (refine PB.ext hN10 ?_; (repeat (first | assumption | exact Ext.refl _ | refine Ext.alloc ?_ _ | refine Ext.drew ?_ | refine Ext.setB ?_ (by first | omega | (simp only [size_alloc, size_setB, size_drew]; omega)) _ | refine Ext.trans ?_ (by assumption))); done) | exact PB.b44 hN10 (Hb.mk (Hb.h (by repeat (first | assumption | exact Hb.newY _ _ | refine Hb.alloc ?_ | refine Hb.drew ?_ | refine Hb.ext (by assumption) ?_ | exact Hb.setSameL (by first | omega | (simp only [size_alloc, size_setB, size_drew]; omega)) | exact Hb.setSame (by assumption) | refine Hb.set (by first | omega | (simp only [size_alloc, size_setB, size_drew]; omega)) ?_ )))) | exact PB.b44 (PB.ext hN10 (by repeat (first | assumption | exact Ext.refl _ | refine Ext.alloc ?_ _ | refine Ext.drew ?_ | refine Ext.setB ?_ (by first | omega | (simp only [size_alloc, size_setB, size_drew]; omega)) _ | exact Ext.trans (by assumption) (by assumption) | refine Ext.trans ?_ (by assumption)))) (Hb.mk (Hb.h (by repeat (first | assumption | exact Hb.newY _ _ | refine Hb.alloc ?_ | refine Hb.drew ?_ | refine Hb.ext (by assumption) ?_ | exact Hb.setSameL (by first | omega | (simp only [size_alloc, size_setB, size_drew]; omega)) | exact Hb.setSame (by assumption) | refine Hb.set (by first | omega | (simp only [size_alloc, size_setB, size_drew]; omega)) ?_ )))))⟩
              · refine WH_allocG Hvac.zeroValue44 ?_
                intro b5 v5 hg5 hE5 hH5 hl5
                try simp only [size_alloc, size_setB, size_drew] at hg5
                have hzz5 := hE5.1
                try simp only [size_alloc, size_setB, size_drew] at hzz5
                replace hH5 : Hb v5 b5 (.cells ((encVw vw0).toArray) 44 (0, 0)) := hH5
                refine ⟨fun _ => (by repeat (first | assumption | exact Ext.refl _ | refine Ext.alloc ?_ _ | refine Ext.drew ?_ | refine Ext.setB ?_ (by first | omega | (simp only [size_alloc, size_setB, size_drew]; omega)) _ | exact Ext.trans (by assumption) (by assumption) | refine Ext.trans ?_ (by assumption))), ?_⟩
                refine WH_nil ?_
                refine F_q (i := 27) rfl (by kernel_rfl) ?_
                refine WH_call Hvac.call37 (by rfl) (Ret.mono (small_spec2 _ (OmB.ext hO (by repeat (first | assumption | exact Ext.refl _ | refine Ext.alloc ?_ _ | refine Ext.drew ?_ | refine Ext.setB ?_ (by first | omega | (simp only [size_alloc, size_setB, size_drew]; omega)) _ | exact Ext.trans (by assumption) (by assumption) | refine Ext.trans ?_ (by assumption)))) _ _ _ _ (by first | exact NN.nil _ | assumption | exact NN.ext (by assumption) (by repeat (first | assumption | exact Ext.refl _ | refine Ext.alloc ?_ _ | refine Ext.drew ?_ | refine Ext.setB ?_ (by first | omega | (simp only [size_alloc, size_setB, size_drew]; omega)) _ | exact Ext.trans (by assumption) (by assumption) | refine Ext.trans ?_ (by assumption)))) (by first | assumption | omega | (rw [sz_zero]; omega))) ?_)
                rintro _ w37_15 ⟨hE37_15, rfl⟩
                refine ⟨fun _ => (by repeat (first | assumption | exact Ext.refl _ | refine Ext.alloc ?_ _ | refine Ext.drew ?_ | refine Ext.setB ?_ (by first | omega | (simp only [size_alloc, size_setB, size_drew]; omega)) _ | exact Ext.trans (by assumption) (by assumption) | refine Ext.trans ?_ (by assumption))), ?_⟩
                have hz37_15 := hE37_15.1
                try simp only [size_alloc, size_setB, size_drew] at hz37_15
                refine WH_nil ?_
                refine F_q (i := 28) rfl (by kernel_rfl) ?_
                refine WH_p (PS_move_ptr rfl) rfl ?_
                refine WH_nil ?_
                refine F_q (i := 29) rfl (by kernel_rfl) ?_
                refine WH_p (PS_nilCheck rfl) rfl ?_
                refine WH_nil ?_
                refine F_q (i := 30) rfl (by kernel_rfl) ?_
                refine WH_p (PS_fieldAddr 12 Hvac.runUnderlying121 rfl Hvac.sizeOf25 rfl rfl) rfl ?_
                refine WH_nil ?_
                refine F_q (i := 31) rfl (by kernel_rfl) ?_
                refine WH_loadA _ Hvac.isAgg25 Hvac.sizeOf25 rfl (Hb.h (by repeat (first | assumption | exact Hb.newY _ _ | refine Hb.alloc ?_ | refine Hb.drew ?_ | refine Hb.ext (by assumption) ?_ | exact Hb.setSameL (by first | omega | (simp only [size_alloc, size_setB, size_drew]; omega)) | exact Hb.setSame (by assumption) | refine Hb.set (by first | omega | (simp only [size_alloc, size_setB, size_drew]; omega)) ?_ ))) (by first | omega | assumption | rfl | decide | exact Nat.le_refl _ | (simp only [size_ic, Value.cells]; omega) | (simp [encWs]; done) | (simp; omega) | simp | exact encYA_sz (by assumption) | exact encYT_sz (by assumption) | exact encYM_sz (by assumption)) (Xt.h (by first | assumption | exact Xt.whole rfl rfl | exact Xt.whole rfl (by assumption) | exact Xt.whole rfl (by simp only [size_ic, Value.cells]; omega) | exact ⟨rfl⟩)) ?_
                refine WH_nil ?_
                refine F_q (i := 32) rfl (by kernel_rfl) ?_
                refine WH_p (PS_move_ptr rfl) rfl ?_
                refine WH_nil ?_
                refine F_q (i := 33) rfl (by kernel_rfl) ?_
                refine WH_p (PS_nilCheck rfl) rfl ?_
                refine WH_nil ?_
                refine F_q (i := 34) rfl (by kernel_rfl) ?_
                refine WH_p (PS_fieldAddr 32 Hvac.runUnderlying121 rfl Hvac.sizeOf25 rfl rfl) rfl ?_
                refine WH_nil ?_
                refine F_q (i := 35) rfl (by kernel_rfl) ?_
                refine WH_loadA _ Hvac.isAgg25 Hvac.sizeOf25 rfl (Hb.h (by repeat (first | assumption | exact Hb.newY _ _ | refine Hb.alloc ?_ | refine Hb.drew ?_ | refine Hb.ext (by assumption) ?_ | exact Hb.setSameL (by first | omega | (simp only [size_alloc, size_setB, size_drew]; omega)) | exact Hb.setSame (by assumption) | refine Hb.set (by first | omega | (simp only [size_alloc, size_setB, size_drew]; omega)) ?_ ))) (by first | omega | assumption | rfl | decide | exact Nat.le_refl _ | (simp only [size_ic, Value.cells]; omega) | (simp [encWs]; done) | (simp; omega) | simp | exact encYA_sz (by assumption) | exact encYT_sz (by assumption) | exact encYM_sz (by assumption)) (Xt.h (by first | assumption | exact Xt.whole rfl rfl | exact Xt.whole rfl (by assumption) | exact Xt.whole rfl (by simp only [size_ic, Value.cells]; omega) | exact ⟨rfl⟩)) ?_
                refine WH_nil ?_
                refine F_q (i := 36) rfl (by kernel_rfl) ?_
                refine WH_p (PS_move_ptr rfl) rfl ?_
                refine WH_nil ?_
                refine F_q (i := 37) rfl (by kernel_rfl) ?_
                refine WH_p (PS_nilCheck rfl) rfl ?_
                refine WH_nil ?_
                refine F_q (i := 38) rfl (by kernel_rfl) ?_
                refine WH_p (PS_fieldAddr 9 Hvac.runUnderlying121 rfl Hvac.sizeOf32 rfl rfl) rfl ?_
                refine WH_nil ?_
                refine F_q (i := 39) rfl (by kernel_rfl) ?_
                refine WH_load (.slice _ _ _) Hvac.isAgg32 rfl (Hb.h (by repeat (first | assumption | exact Hb.newY _ _ | refine Hb.alloc ?_ | refine Hb.drew ?_ | refine Hb.ext (by assumption) ?_ | exact Hb.setSameL (by first | omega | (simp only [size_alloc, size_setB, size_drew]; omega)) | exact Hb.setSame (by assumption) | refine Hb.set (by first | omega | (simp only [size_alloc, size_setB, size_drew]; omega)) ?_ ))) (Ce.h (by first | assumption | exact ⟨rfl⟩)) ?_
                refine WH_nil ?_
                refine F_q (i := 40) rfl (by kernel_rfl) ?_
                refine WH_call Hvac.call31 (by rfl) (Ret.mono (yBytesOf_spec _ (OmB.ext hO (by repeat (first | assumption | exact Ext.refl _ | refine Ext.alloc ?_ _ | refine Ext.drew ?_ | refine Ext.setB ?_ (by first | omega | (simp only [size_alloc, size_setB, size_drew]; omega)) _ | exact Ext.trans (by assumption) (by assumption) | refine Ext.trans ?_ (by assumption)))) xf.mem.1 xf.mem.2.1 xf.mem.2.2 f.mem (AB.ext hmAB (by repeat (first | assumption | exact Ext.refl _ | refine Ext.alloc ?_ _ | refine Ext.drew ?_ | refine Ext.setB ?_ (by first | omega | (simp only [size_alloc, size_setB, size_drew]; omega)) _ | exact Ext.trans (by assumption) (by assumption) | refine Ext.trans ?_ (by assumption)))) (by omega)) ?_)
                rintro _ w31_16 ⟨hE31_16, s9, rfl, hN9⟩
                refine ⟨fun _ => (by repeat (first | assumption | exact Ext.refl _ | refine Ext.alloc ?_ _ | refine Ext.drew ?_ | refine Ext.setB ?_ (by first | omega | (simp only [size_alloc, size_setB, size_drew]; omega)) _ | exact Ext.trans (by assumption) (by assumption) | refine Ext.trans ?_ (by assumption))), ?_⟩
                have hz31_16 := hE31_16.1
                try simp only [size_alloc, size_setB, size_drew] at hz31_16
                refine WH_nil ?_
                refine F_q (i := 41) rfl (by kernel_rfl) ?_
                refine WH_p (PS_move_ptr rfl) rfl ?_
                refine WH_nil ?_
                refine F_q (i := 42) rfl (by kernel_rfl) ?_
                refine WH_p (PS_nilCheck rfl) rfl ?_
                refine WH_nil ?_
                refine F_q (i := 43) rfl (by kernel_rfl) ?_
                refine WH_p (PS_fieldAddr 10 Hvac.runUnderlying99 rfl Hvac.sizeOf32 rfl rfl) rfl ?_
                refine WH_nil ?_
                refine F_q (i := 44) rfl (by kernel_rfl) ?_
                refine WH_load (.slice _ _ _) Hvac.isAgg32 rfl (Hb.h (by repeat (first | assumption | exact Hb.newY _ _ | refine Hb.alloc ?_ | refine Hb.drew ?_ | refine Hb.ext (by assumption) ?_ | exact Hb.setSameL (by first | omega | (simp only [size_alloc, size_setB, size_drew]; omega)) | exact Hb.setSame (by assumption) | refine Hb.set (by first | omega | (simp only [size_alloc, size_setB, size_drew]; omega)) ?_ ))) (Ce.h (by first | assumption | exact ⟨rfl⟩)) ?_
                refine WH_nil ?_
                refine F_q (i := 45) rfl (by kernel_rfl) ?_
                refine WH_call Hvac.call31 (by rfl) (Ret.mono (yBytesOf_spec _ (OmB.ext hO (by repeat (first | assumption | exact Ext.refl _ | refine Ext.alloc ?_ _ | refine Ext.drew ?_ | refine Ext.setB ?_ (by first | omega | (simp only [size_alloc, size_setB, size_drew]; omega)) _ | exact Ext.trans (by assumption) (by assumption) | refine Ext.trans ?_ (by assumption)))) x.ret.1 x.ret.2.1 x.ret.2.2 y.ret (PB.ab (PB.ext hPrt (by repeat (first | assumption | exact Ext.refl _ | refine Ext.alloc ?_ _ | refine Ext.drew ?_ | refine Ext.setB ?_ (by first | omega | (simp only [size_alloc, size_setB, size_drew]; omega)) _ | exact Ext.trans (by assumption) (by assumption) | refine Ext.trans ?_ (by assumption))))) (by omega)) ?_)
                rintro _ w31_17 ⟨hE31_17, s10, rfl, hN10⟩
                refine ⟨fun _ => (by repeat (first | assumption | exact Ext.refl _ | refine Ext.alloc ?_ _ | refine Ext.drew ?_ | refine Ext.setB ?_ (by first | omega | (simp only [size_alloc, size_setB, size_drew]; omega)) _ | exact Ext.trans (by assumption) (by assumption) | refine Ext.trans ?_ (by assumption))), ?_⟩
                have hz31_17 := hE31_17.1
                try simp only [size_alloc, size_setB, size_drew] at hz31_17
                refine WH_nil ?_
                refine F_q (i := 46) rfl (by kernel_rfl) ?_
                refine WH_p (PS_move_ptr rfl) rfl ?_
                refine WH_nil ?_
                refine F_q (i := 47) rfl (by kernel_rfl) ?_
                refine WH_p (PS_nilCheck rfl) rfl ?_
                refine WH_nil ?_
                refine F_q (i := 48) rfl (by kernel_rfl) ?_
                refine WH_p (PS_fieldAddr 0 Hvac.runUnderlying99 rfl Hvac.sizeOf95 rfl rfl) rfl ?_
                refine WH_nil ?_
                refine F_q (i := 49) rfl (by kernel_rfl) ?_
                refine WH_p (PS_fieldAddr 4 Hvac.runUnderlying95 rfl Hvac.sizeOf76 rfl rfl) rfl ?_
                refine WH_nil ?_
                refine F_q (i := 50) rfl (by kernel_rfl) ?_
                refine WH_load (.slice _ _ _) Hvac.isAgg76 rfl (Hb.h (by repeat (first | assumption | exact Hb.newY _ _ | refine Hb.alloc ?_ | refine Hb.drew ?_ | refine Hb.ext (by assumption) ?_ | exact Hb.setSameL (by first | omega | (simp only [size_alloc, size_setB, size_drew]; omega)) | exact Hb.setSame (by assumption) | refine Hb.set (by first | omega | (simp only [size_alloc, size_setB, size_drew]; omega)) ?_ ))) (Ce.h (by first | assumption | exact ⟨rfl⟩)) ?_
                refine WH_nil ?_
                refine F_q (i := 51) rfl (by kernel_rfl) ?_
                refine WH_p (PS_lenS Hvac.runUnderlying76 rfl) rfl ?_
                refine WH_nil ?_
                refine F_q (i := 52) rfl (by kernel_rfl) ?_
                refine WH_p (PS_conv_u16n Hvac.runUnderlying3 Hvac.runUnderlying42 rfl (by omega) (by omega)) rfl ?_
                refine WH_nil ?_
                refine F_q (i := 53) rfl (by kernel_rfl) ?_
                refine WH_p (PS_b44_r rfl rfl rfl rfl rfl rfl hsbl rfl hsbl2 rfl rfl rfl) rfl ?_
                rw [show (((rest.length + 1 : Nat) : Int) - 1) = (rest.length : Int) by omega, show ((s9.1, s9.2.1, s9.2.2) : SV) = s9 from rfl, show ((s10.1, s10.2.1, s10.2.2) : SV) = s10 from rfl]
                have hszv : (encVw ⟨false, f.statY, rest.length, ysmall f.pc, ysmall f.gas, ysmall y.now.ref, f.self, f.caller, (none, 0, 0), s9, s10, y.now.nlogs⟩).toArray.size = 50 := encVw_sz hsbl hsbl2
                have honev := one_Vw ⟨false, f.statY, rest.length, ysmall f.pc, ysmall f.gas, ysmall y.now.ref, f.self, f.caller, (none, 0, 0), s9, s10, y.now.nlogs⟩
                refine WH_nil ?_
                refine F_q (i := 55) rfl (by kernel_rfl) ?_
                first | refine WH_storeW Hvac.sizeOf44 rfl (v := .agg _) rfl (Hb.h (by repeat (first | assumption | exact Hb.newY _ _ | refine Hb.alloc ?_ | refine Hb.drew ?_ | refine Hb.ext (by assumption) ?_ | exact Hb.setSameL (by first | omega | (simp only [size_alloc, size_setB, size_drew]; omega)) | exact Hb.setSame (by assumption) | refine Hb.set (by first | omega | (simp only [size_alloc, size_setB, size_drew]; omega)) ?_ ))) rfl (by first | omega | assumption | rfl | decide | exact Nat.le_refl _ | (simp only [size_ic, Value.cells]; omega) | (simp [encWs]; done) | (simp; omega) | simp | exact encYA_sz (by assumption) | exact encYT_sz (by assumption) | exact encYM_sz (by assumption)) (by first | omega | assumption | rfl | decide | exact Nat.le_refl _ | (simp only [size_ic, Value.cells]; omega) | (simp [encWs]; done) | (simp; omega) | simp | exact encYA_sz (by assumption) | exact encYT_sz (by assumption) | exact encYM_sz (by assumption)) (by first | exact oneCell_ic | assumption | exact one_Ws2 _ | exact one_YA2 _ | exact one_YSl2 _ | exact one_YM2 _ | exact one_YT2 _ | exact one_L2 _) (fun h => by cases h) ?_ | refine WH_store Hvac.sizeOf44 rfl (v := .agg _) rfl (Hb.h (by repeat (first | assumption | exact Hb.newY _ _ | refine Hb.alloc ?_ | refine Hb.drew ?_ | refine Hb.ext (by assumption) ?_ | exact Hb.setSameL (by first | omega | (simp only [size_alloc, size_setB, size_drew]; omega)) | exact Hb.setSame (by assumption) | refine Hb.set (by first | omega | (simp only [size_alloc, size_setB, size_drew]; omega)) ?_ ))) (by first | omega | assumption | rfl | decide | exact Nat.le_refl _ | (simp only [size_ic, Value.cells]; omega) | (simp [encWs]; done) | (simp; omega) | simp | exact encYA_sz (by assumption) | exact encYT_sz (by assumption) | exact encYM_sz (by assumption)) (by first | omega | assumption | rfl | decide | exact Nat.le_refl _ | (simp only [size_ic, Value.cells]; omega) | (simp [encWs]; done) | (simp; omega) | simp | exact encYA_sz (by assumption) | exact encYT_sz (by assumption) | exact encYM_sz (by assumption)) (by first | exact oneCell_ic | assumption | exact one_Ws2 _ | exact one_YA2 _ | exact one_YSl2 _ | exact one_YM2 _ | exact one_YT2 _ | exact one_L2 _) (fun h => by cases h) ?_
                refine WH_nil ?_
                refine F_end ?_
                refine thn_normal ?_
                exact ⟨b5, s9, s10, ⟨rfl, rfl, rfl, trivial⟩, (by repeat (first | assumption | exact Ext.refl _ | refine Ext.alloc ?_ _ | refine Ext.drew ?_ | refine Ext.setB ?_ (by first | omega | (simp only [size_alloc, size_setB, size_drew]; omega)) _ | exact Ext.trans (by assumption) (by assumption) | refine Ext.trans ?_ (by assumption))), by omega, by omega, Hb.mk (Hb.h (by repeat (first | assumption | exact Hb.newY _ _ | refine Hb.alloc ?_ | refine Hb.drew ?_ | refine Hb.ext (by assumption) ?_ | exact Hb.setSameL (by first | omega | (simp only [size_alloc, size_setB, size_drew]; omega)) | exact Hb.setSame (by assumption) | refine Hb.set (by first | omega | (simp only [size_alloc, size_setB, size_drew]; omega)) ?_ ))), Hb.mk (Hb.h (by repeat (first | assumption | exact Hb.newY _ _ | refine Hb.alloc ?_ | refine Hb.drew ?_ | refine Hb.ext (by assumption) ?_ | exact Hb.setSameL (by first | omega | (simp only [size_alloc, size_setB, size_drew]; omega)) | exact Hb.setSame (by assumption) | refine Hb.set (by first | omega | (simp only [size_alloc, size_setB, size_drew]; omega)) ?_ ))), (by first | (refine PB.ext hN9 ?_; (repeat (first | assumption | exact Ext.refl _ | refine Ext.alloc ?_ _ | refine Ext.drew ?_ | refine Ext.setB ?_ (by first | omega | (simp only [size_alloc, size_setB, size_drew]; omega)) _ | refine Ext.trans ?_ (by assumption))); done) | exact PB.b44 hN9 (Hb.mk (Hb.h (by repeat (first | assumption | exact Hb.newY _ _ | refine Hb.alloc ?_ | refine Hb.drew ?_ | refine Hb.ext (by assumption) ?_ | exact Hb.setSameL (by first | omega | (simp only [size_alloc, size_setB, size_drew]; omega)) | exact Hb.setSame (by assumption) | refine Hb.set (by first | omega | (simp only [size_alloc, size_setB, size_drew]; omega)) ?_ )))) | exact PB.b44 (PB.ext hN9 (by repeat (first | assumption | exact Ext.refl _ | refine Ext.alloc ?_ _ | refine Ext.drew ?_ | refine Ext.setB ?_ (by first | omega | (simp only [size_alloc, size_setB, size_drew]; omega)) _ | exact Ext.trans (by assumption) (by assumption) | refine Ext.trans ?_ (by assumption)))) (Hb.mk (Hb.h (by repeat (first | assumption | exact Hb.newY _ _ | refine Hb.alloc ?_ | refine Hb.drew ?_ | refine Hb.ext (by assumption) ?_ | exact Hb.setSameL (by first | omega | (simp only [size_alloc, size_setB, size_drew]; omega)) | exact Hb.setSame (by assumption) | refine Hb.set (by first | omega | (simp only [size_alloc, size_setB, size_drew]; omega)) ?_ ))))), (by first | (refine PB.ext hN10 ?_; (repeat (first | assumption | exact Ext.refl _ | refine Ext.alloc ?_ _ | refine Ext.drew ?_ | refine Ext.setB ?_ (by first | omega | (simp only [size_alloc, size_setB, size_drew]; omega)) _ | refine Ext.trans ?_ (by assumption))); done) | exact PB.b44 hN10 (Hb.mk (Hb.h (by repeat (first | assumption | exact Hb.newY _ _ | refine Hb.alloc ?_ | refine Hb.drew ?_ | refine Hb.ext (by assumption) ?_ | exact Hb.setSameL (by first | omega | (simp only [size_alloc, size_setB, size_drew]; omega)) | exact Hb.setSame (by assumption) | refine Hb.set (by first | omega | (simp only [size_alloc, size_setB, size_drew]; omega)) ?_ )))) | exact PB.b44 (PB.ext hN10 (by repeat (first | assumption | exact Ext.refl _ | refine Ext.alloc ?_ _ | refine Ext.drew ?_ | refine Ext.setB ?_ (by first | omega | (simp only [size_alloc, size_setB, size_drew]; omega)) _ | exact Ext.trans (by assumption) (by assumption) | refine Ext.trans ?_ (by assumption)))) (Hb.mk (Hb.h (by repeat (first | assumption | exact Hb.newY _ _ | refine Hb.alloc ?_ | refine Hb.drew ?_ | refine Hb.ext (by assumption) ?_ | exact Hb.setSameL (by first | omega | (simp only [size_alloc, size_setB, size_drew]; omega)) | exact Hb.setSame (by assumption) | refine Hb.set (by first | omega | (simp only [size_alloc, size_setB, size_drew]; omega)) ?_ )))))⟩
            · refine WH_allocG Hvac.zeroValue44 ?_
              intro b5 v5 hg5 hE5 hH5 hl5
              try simp only [size_alloc, size_setB, size_drew] at hg5
              have hzz5 := hE5.1
              try simp only [size_alloc, size_setB, size_drew] at hzz5
              replace hH5 : Hb v5 b5 (.cells ((encVw vw0).toArray) 44 (0, 0)) := hH5
              refine ⟨fun _ => (by repeat (first | assumption | exact Ext.refl _ | refine Ext.alloc ?_ _ | refine Ext.drew ?_ | refine Ext.setB ?_ (by first | omega | (simp only [size_alloc, size_setB, size_drew]; omega)) _ | exact Ext.trans (by assumption) (by assumption) | refine Ext.trans ?_ (by assumption))), ?_⟩
              refine WH_nil ?_
              refine F_q (i := 21) rfl (by kernel_rfl) ?_
              refine WH_call Hvac.call37 (by rfl) (Ret.mono (small_spec2 _ (OmB.ext hO (by repeat (first | assumption | exact Ext.refl _ | refine Ext.alloc ?_ _ | refine Ext.drew ?_ | refine Ext.setB ?_ (by first | omega | (simp only [size_alloc, size_setB, size_drew]; omega)) _ | exact Ext.trans (by assumption) (by assumption) | refine Ext.trans ?_ (by assumption)))) _ _ _ _ (by first | exact NN.nil _ | assumption | exact NN.ext (by assumption) (by repeat (first | assumption | exact Ext.refl _ | refine Ext.alloc ?_ _ | refine Ext.drew ?_ | refine Ext.setB ?_ (by first | omega | (simp only [size_alloc, size_setB, size_drew]; omega)) _ | exact Ext.trans (by assumption) (by assumption) | refine Ext.trans ?_ (by assumption)))) (by first | assumption | omega | (rw [sz_zero]; omega))) ?_)
              rintro _ w37_18 ⟨hE37_18, rfl⟩
              refine ⟨fun _ => (by repeat (first | assumption | exact Ext.refl _ | refine Ext.alloc ?_ _ | refine Ext.drew ?_ | refine Ext.setB ?_ (by first | omega | (simp only [size_alloc, size_setB, size_drew]; omega)) _ | exact Ext.trans (by assumption) (by assumption) | refine Ext.trans ?_ (by assumption))), ?_⟩
              have hz37_18 := hE37_18.1
              try simp only [size_alloc, size_setB, size_drew] at hz37_18
              refine WH_nil ?_
              refine F_q (i := 22) rfl (by kernel_rfl) ?_
              refine WH_p (PS_move_ptr rfl) rfl ?_
              refine WH_nil ?_
              refine F_q (i := 23) rfl (by kernel_rfl) ?_
              refine WH_p (PS_nilCheck rfl) rfl ?_
              refine WH_nil ?_
              refine F_q (i := 24) rfl (by kernel_rfl) ?_
              refine WH_p (PS_fieldAddr 0 Hvac.runUnderlying99 rfl Hvac.sizeOf95 rfl rfl) rfl ?_
              refine WH_nil ?_
              refine F_q (i := 25) rfl (by kernel_rfl) ?_
              refine WH_p (PS_fieldAddr 3 Hvac.runUnderlying95 rfl Hvac.sizeOf92 rfl rfl) rfl ?_
              refine WH_nil ?_
              refine F_q (i := 26) rfl (by kernel_rfl) ?_
              refine WH_load (.slice _ _ _) Hvac.isAgg92 rfl (Hb.h (by repeat (first | assumption | exact Hb.newY _ _ | refine Hb.alloc ?_ | refine Hb.drew ?_ | refine Hb.ext (by assumption) ?_ | exact Hb.setSameL (by first | omega | (simp only [size_alloc, size_setB, size_drew]; omega)) | exact Hb.setSame (by assumption) | refine Hb.set (by first | omega | (simp only [size_alloc, size_setB, size_drew]; omega)) ?_ ))) (Ce.h (by first | assumption | exact ⟨rfl⟩)) ?_
              refine WH_nil ?_
              refine F_q (i := 27) rfl (by kernel_rfl) ?_
              refine WH_call Hvac.call37 (by rfl) (Ret.mono (small_spec2 _ (OmB.ext hO (by repeat (first | assumption | exact Ext.refl _ | refine Ext.alloc ?_ _ | refine Ext.drew ?_ | refine Ext.setB ?_ (by first | omega | (simp only [size_alloc, size_setB, size_drew]; omega)) _ | exact Ext.trans (by assumption) (by assumption) | refine Ext.trans ?_ (by assumption)))) _ _ _ _ (by first | exact NN.nil _ | assumption | exact NN.ext (by assumption) (by repeat (first | assumption | exact Ext.refl _ | refine Ext.alloc ?_ _ | refine Ext.drew ?_ | refine Ext.setB ?_ (by first | omega | (simp only [size_alloc, size_setB, size_drew]; omega)) _ | exact Ext.trans (by assumption) (by assumption) | refine Ext.trans ?_ (by assumption)))) (by first | assumption | omega | (rw [sz_zero]; omega))) ?_)
              rintro _ w37_19 ⟨hE37_19, rfl⟩
              refine ⟨fun _ => (by repeat (first | assumption | exact Ext.refl _ | refine Ext.alloc ?_ _ | refine Ext.drew ?_ | refine Ext.setB ?_ (by first | omega | (simp only [size_alloc, size_setB, size_drew]; omega)) _ | exact Ext.trans (by assumption) (by assumption) | refine Ext.trans ?_ (by assumption))), ?_⟩
              have hz37_19 := hE37_19.1
              try simp only [size_alloc, size_setB, size_drew] at hz37_19
              refine WH_nil ?_
              refine F_q (i := 28) rfl (by kernel_rfl) ?_
              refine WH_p (PS_move_ptr rfl) rfl ?_
              refine WH_nil ?_
              refine F_q (i := 29) rfl (by kernel_rfl) ?_
              refine WH_p (PS_nilCheck rfl) rfl ?_
              refine WH_nil ?_
              refine F_q (i := 30) rfl (by kernel_rfl) ?_
              refine WH_p (PS_fieldAddr 12 Hvac.runUnderlying121 rfl Hvac.sizeOf25 rfl rfl) rfl ?_
              refine WH_nil ?_
              refine F_q (i := 31) rfl (by kernel_rfl) ?_
              refine WH_loadA _ Hvac.isAgg25 Hvac.sizeOf25 rfl (Hb.h (by repeat (first | assumption | exact Hb.newY _ _ | refine Hb.alloc ?_ | refine Hb.drew ?_ | refine Hb.ext (by assumption) ?_ | exact Hb.setSameL (by first | omega | (simp only [size_alloc, size_setB, size_drew]; omega)) | exact Hb.setSame (by assumption) | refine Hb.set (by first | omega | (simp only [size_alloc, size_setB, size_drew]; omega)) ?_ ))) (by first | omega | assumption | rfl | decide | exact Nat.le_refl _ | (simp only [size_ic, Value.cells]; omega) | (simp [encWs]; done) | (simp; omega) | simp | exact encYA_sz (by assumption) | exact encYT_sz (by assumption) | exact encYM_sz (by assumption)) (Xt.h (by first | assumption | exact Xt.whole rfl rfl | exact Xt.whole rfl (by assumption) | exact Xt.whole rfl (by simp only [size_ic, Value.cells]; omega) | exact ⟨rfl⟩)) ?_
              refine WH_nil ?_
              refine F_q (i := 32) rfl (by kernel_rfl) ?_
              refine WH_p (PS_move_ptr rfl) rfl ?_
              refine WH_nil ?_
              refine F_q (i := 33) rfl (by kernel_rfl) ?_
              refine WH_p (PS_nilCheck rfl) rfl ?_
              refine WH_nil ?_
              refine F_q (i := 34) rfl (by kernel_rfl) ?_
              refine WH_p (PS_fieldAddr 32 Hvac.runUnderlying121 rfl Hvac.sizeOf25 rfl rfl) rfl ?_
              refine WH_nil ?_
              refine F_q (i := 35) rfl (by kernel_rfl) ?_
              refine WH_loadA _ Hvac.isAgg25 Hvac.sizeOf25 rfl (Hb.h (by repeat (first | assumption | exact Hb.newY _ _ | refine Hb.alloc ?_ | refine Hb.drew ?_ | refine Hb.ext (by assumption) ?_ | exact Hb.setSameL (by first | omega | (simp only [size_alloc, size_setB, size_drew]; omega)) | exact Hb.setSame (by assumption) | refine Hb.set (by first | omega | (simp only [size_alloc, size_setB, size_drew]; omega)) ?_ ))) (by first | omega | assumption | rfl | decide | exact Nat.le_refl _ | (simp only [size_ic, Value.cells]; omega) | (simp [encWs]; done) | (simp; omega) | simp | exact encYA_sz (by assumption) | exact encYT_sz (by assumption) | exact encYM_sz (by assumption)) (Xt.h (by first | assumption | exact Xt.whole rfl rfl | exact Xt.whole rfl (by assumption) | exact Xt.whole rfl (by simp only [size_ic, Value.cells]; omega) | exact ⟨rfl⟩)) ?_
              refine WH_nil ?_
              refine F_q (i := 36) rfl (by kernel_rfl) ?_
              refine WH_p (PS_move_ptr rfl) rfl ?_
              refine WH_nil ?_
              refine F_q (i := 37) rfl (by kernel_rfl) ?_
              refine WH_p (PS_nilCheck rfl) rfl ?_
              refine WH_nil ?_
              refine F_q (i := 38) rfl (by kernel_rfl) ?_
              refine WH_p (PS_fieldAddr 9 Hvac.runUnderlying121 rfl Hvac.sizeOf32 rfl rfl) rfl ?_
              refine WH_nil ?_
              refine F_q (i := 39) rfl (by kernel_rfl) ?_
              refine WH_load (.slice _ _ _) Hvac.isAgg32 rfl (Hb.h (by repeat (first | assumption | exact Hb.newY _ _ | refine Hb.alloc ?_ | refine Hb.drew ?_ | refine Hb.ext (by assumption) ?_ | exact Hb.setSameL (by first | omega | (simp only [size_alloc, size_setB, size_drew]; omega)) | exact Hb.setSame (by assumption) | refine Hb.set (by first | omega | (simp only [size_alloc, size_setB, size_drew]; omega)) ?_ ))) (Ce.h (by first | assumption | exact ⟨rfl⟩)) ?_
              refine WH_nil ?_
              refine F_q (i := 40) rfl (by kernel_rfl) ?_
              refine WH_call Hvac.call31 (by rfl) (Ret.mono (yBytesOf_spec _ (OmB.ext hO (by repeat (first | assumption | exact Ext.refl _ | refine Ext.alloc ?_ _ | refine Ext.drew ?_ | refine Ext.setB ?_ (by first | omega | (simp only [size_alloc, size_setB, size_drew]; omega)) _ | exact Ext.trans (by assumption) (by assumption) | refine Ext.trans ?_ (by assumption)))) xf.mem.1 xf.mem.2.1 xf.mem.2.2 f.mem (AB.ext hmAB (by repeat (first | assumption | exact Ext.refl _ | refine Ext.alloc ?_ _ | refine Ext.drew ?_ | refine Ext.setB ?_ (by first | omega | (simp only [size_alloc, size_setB, size_drew]; omega)) _ | exact Ext.trans (by assumption) (by assumption) | refine Ext.trans ?_ (by assumption)))) (by omega)) ?_)
              rintro _ w31_20 ⟨hE31_20, s9, rfl, hN9⟩
              refine ⟨fun _ => (by repeat (first | assumption | exact Ext.refl _ | refine Ext.alloc ?_ _ | refine Ext.drew ?_ | refine Ext.setB ?_ (by first | omega | (simp only [size_alloc, size_setB, size_drew]; omega)) _ | exact Ext.trans (by assumption) (by assumption) | refine Ext.trans ?_ (by assumption))), ?_⟩
              have hz31_20 := hE31_20.1
              try simp only [size_alloc, size_setB, size_drew] at hz31_20
              refine WH_nil ?_
              refine F_q (i := 41) rfl (by kernel_rfl) ?_
              refine WH_p (PS_move_ptr rfl) rfl ?_
              refine WH_nil ?_
              refine F_q (i := 42) rfl (by kernel_rfl) ?_
              refine WH_p (PS_nilCheck rfl) rfl ?_
              refine WH_nil ?_
              refine F_q (i := 43) rfl (by kernel_rfl) ?_
              refine WH_p (PS_fieldAddr 10 Hvac.runUnderlying99 rfl Hvac.sizeOf32 rfl rfl) rfl ?_
              refine WH_nil ?_
              refine F_q (i := 44) rfl (by kernel_rfl) ?_
              refine WH_load (.slice _ _ _) Hvac.isAgg32 rfl (Hb.h (by repeat (first | assumption | exact Hb.newY _ _ | refine Hb.alloc ?_ | refine Hb.drew ?_ | refine Hb.ext (by assumption) ?_ | exact Hb.setSameL (by first | omega | (simp only [size_alloc, size_setB, size_drew]; omega)) | exact Hb.setSame (by assumption) | refine Hb.set (by first | omega | (simp only [size_alloc, size_setB, size_drew]; omega)) ?_ ))) (Ce.h (by first | assumption | exact ⟨rfl⟩)) ?_
              refine WH_nil ?_
              refine F_q (i := 45) rfl (by kernel_rfl) ?_
              refine WH_call Hvac.call31 (by rfl) (Ret.mono (yBytesOf_spec _ (OmB.ext hO (by repeat (first | assumption | exact Ext.refl _ | refine Ext.alloc ?_ _ | refine Ext.drew ?_ | refine Ext.setB ?_ (by first | omega | (simp only [size_alloc, size_setB, size_drew]; omega)) _ | exact Ext.trans (by assumption) (by assumption) | refine Ext.trans ?_ (by assumption)))) x.ret.1 x.ret.2.1 x.ret.2.2 y.ret (PB.ab (PB.ext hPrt (by repeat (first | assumption | exact Ext.refl _ | refine Ext.alloc ?_ _ | refine Ext.drew ?_ | refine Ext.setB ?_ (by first | omega | (simp only [size_alloc, size_setB, size_drew]; omega)) _ | exact Ext.trans (by assumption) (by assumption) | refine Ext.trans ?_ (by assumption))))) (by omega)) ?_)
              rintro _ w31_21 ⟨hE31_21, s10, rfl, hN10⟩
              refine ⟨fun _ => (by repeat (first | assumption | exact Ext.refl _ | refine Ext.alloc ?_ _ | refine Ext.drew ?_ | refine Ext.setB ?_ (by first | omega | (simp only [size_alloc, size_setB, size_drew]; omega)) _ | exact Ext.trans (by assumption) (by assumption) | refine Ext.trans ?_ (by assumption))), ?_⟩
              have hz31_21 := hE31_21.1
              try simp only [size_alloc, size_setB, size_drew] at hz31_21
              refine WH_nil ?_
              refine F_q (i := 46) rfl (by kernel_rfl) ?_
              refine WH_p (PS_move_ptr rfl) rfl ?_
              refine WH_nil ?_
              refine F_q (i := 47) rfl (by kernel_rfl) ?_
              refine WH_p (PS_nilCheck rfl) rfl ?_
              refine WH_nil ?_
              refine F_q (i := 48) rfl (by kernel_rfl) ?_
              refine WH_p (PS_fieldAddr 0 Hvac.runUnderlying99 rfl Hvac.sizeOf95 rfl rfl) rfl ?_
              refine WH_nil ?_
              refine F_q (i := 49) rfl (by kernel_rfl) ?_
              refine WH_p (PS_fieldAddr 4 Hvac.runUnderlying95 rfl Hvac.sizeOf76 rfl rfl) rfl ?_
              refine WH_nil ?_
              refine F_q (i := 50) rfl (by kernel_rfl) ?_
              refine WH_load (.slice _ _ _) Hvac.isAgg76 rfl (Hb.h (by repeat (first | assumption | exact Hb.newY _ _ | refine Hb.alloc ?_ | refine Hb.drew ?_ | refine Hb.ext (by assumption) ?_ | exact Hb.setSameL (by first | omega | (simp only [size_alloc, size_setB, size_drew]; omega)) | exact Hb.setSame (by assumption) | refine Hb.set (by first | omega | (simp only [size_alloc, size_setB, size_drew]; omega)) ?_ ))) (Ce.h (by first | assumption | exact ⟨rfl⟩)) ?_
              refine WH_nil ?_
              refine F_q (i := 51) rfl (by kernel_rfl) ?_
              refine WH_p (PS_lenS Hvac.runUnderlying76 rfl) rfl ?_
              refine WH_nil ?_
              refine F_q (i := 52) rfl (by kernel_rfl) ?_
              refine WH_p (PS_conv_u16n Hvac.runUnderlying3 Hvac.runUnderlying42 rfl (by omega) (by omega)) rfl ?_
              refine WH_nil ?_
              refine F_q (i := 53) rfl (by kernel_rfl) ?_
              refine WH_p (PS_b44_r rfl rfl rfl rfl rfl rfl hsbl rfl hsbl2 rfl rfl rfl) rfl ?_
              rw [show (((rest.length + 1 : Nat) : Int) - 1) = (rest.length : Int) by omega, show ((s9.1, s9.2.1, s9.2.2) : SV) = s9 from rfl, show ((s10.1, s10.2.1, s10.2.2) : SV) = s10 from rfl]
              have hszv : (encVw ⟨false, f.statY, rest.length, ysmall f.pc, ysmall f.gas, ysmall y.now.ref, f.self, f.caller, (none, 0, 0), s9, s10, y.now.nlogs⟩).toArray.size = 50 := encVw_sz hsbl hsbl2
              have honev := one_Vw ⟨false, f.statY, rest.length, ysmall f.pc, ysmall f.gas, ysmall y.now.ref, f.self, f.caller, (none, 0, 0), s9, s10, y.now.nlogs⟩
              refine WH_nil ?_
              refine F_q (i := 55) rfl (by kernel_rfl) ?_
              first | refine WH_storeW Hvac.sizeOf44 rfl (v := .agg _) rfl (Hb.h (by repeat (first | assumption | exact Hb.newY _ _ | refine Hb.alloc ?_ | refine Hb.drew ?_ | refine Hb.ext (by assumption) ?_ | exact Hb.setSameL (by first | omega | (simp only [size_alloc, size_setB, size_drew]; omega)) | exact Hb.setSame (by assumption) | refine Hb.set (by first | omega | (simp only [size_alloc, size_setB, size_drew]; omega)) ?_ ))) rfl (by first | omega | assumption | rfl | decide | exact Nat.le_refl _ | (simp only [size_ic, Value.cells]; omega) | (simp [encWs]; done) | (simp; omega) | simp | exact encYA_sz (by assumption) | exact encYT_sz (by assumption) | exact encYM_sz (by assumption)) (by first | omega | assumption | rfl | decide | exact Nat.le_refl _ | (simp only [size_ic, Value.cells]; omega) | (simp [encWs]; done) | (simp; omega) | simp | exact encYA_sz (by assumption) | exact encYT_sz (by assumption) | exact encYM_sz (by assumption)) (by first | exact oneCell_ic | assumption | exact one_Ws2 _ | exact one_YA2 _ | exact one_YSl2 _ | exact one_YM2 _ | exact one_YT2 _ | exact one_L2 _) (fun h => by cases h) ?_ | refine WH_store Hvac.sizeOf44 rfl (v := .agg _) rfl (Hb.h (by repeat (first | assumption | exact Hb.newY _ _ | refine Hb.alloc ?_ | refine Hb.drew ?_ | refine Hb.ext (by assumption) ?_ | exact Hb.setSameL (by first | omega | (simp only [size_alloc, size_setB, size_drew]; omega)) | exact Hb.setSame (by assumption) | refine Hb.set (by first | omega | (simp only [size_alloc, size_setB, size_drew]; omega)) ?_ ))) (by first | omega | assumption | rfl | decide | exact Nat.le_refl _ | (simp only [size_ic, Value.cells]; omega) | (simp [encWs]; done) | (simp; omega) | simp | exact encYA_sz (by assumption) | exact encYT_sz (by assumption) | exact encYM_sz (by assumption)) (by first | omega | assumption | rfl | decide | exact Nat.le_refl _ | (simp only [size_ic, Value.cells]; omega) | (simp [encWs]; done) | (simp; omega) | simp | exact encYA_sz (by assumption) | exact encYT_sz (by assumption) | exact encYM_sz (by assumption)) (by first | exact oneCell_ic | assumption | exact one_Ws2 _ | exact one_YA2 _ | exact one_YSl2 _ | exact one_YM2 _ | exact one_YT2 _ | exact one_L2 _) (fun h => by cases h) ?_
              refine WH_nil ?_
              refine F_end ?_
              refine thn_normal ?_
              exact ⟨b5, s9, s10, ⟨rfl, rfl, rfl, trivial⟩, (by repeat (first | assumption | exact Ext.refl _ | refine Ext.alloc ?_ _ | refine Ext.drew ?_ | refine Ext.setB ?_ (by first | omega | (simp only [size_alloc, size_setB, size_drew]; omega)) _ | exact Ext.trans (by assumption) (by assumption) | refine Ext.trans ?_ (by assumption))), by omega, by omega, Hb.mk (Hb.h (by repeat (first | assumption | exact Hb.newY _ _ | refine Hb.alloc ?_ | refine Hb.drew ?_ | refine Hb.ext (by assumption) ?_ | exact Hb.setSameL (by first | omega | (simp only [size_alloc, size_setB, size_drew]; omega)) | exact Hb.setSame (by assumption) | refine Hb.set (by first | omega | (simp only [size_alloc, size_setB, size_drew]; omega)) ?_ ))), Hb.mk (Hb.h (by repeat (first | assumption | exact Hb.newY _ _ | refine Hb.alloc ?_ | refine Hb.drew ?_ | refine Hb.ext (by assumption) ?_ | exact Hb.setSameL (by first | omega | (simp only [size_alloc, size_setB, size_drew]; omega)) | exact Hb.setSame (by assumption) | refine Hb.set (by first | omega | (simp only [size_alloc, size_setB, size_drew]; omega)) ?_ ))), (by first | (refine PB.ext hN9 ?_; (repeat (first | assumption | exact Ext.refl _ | refine Ext.alloc ?_ _ | refine Ext.drew ?_ | refine Ext.setB ?_ (by first | omega | (simp only [size_alloc, size_setB, size_drew]; omega)) _ | refine Ext.trans ?_ (by assumption))); done) | exact PB.b44 hN9 (Hb.mk (Hb.h (by repeat (first | assumption | exact Hb.newY _ _ | refine Hb.alloc ?_ | refine Hb.drew ?_ | refine Hb.ext (by assumption) ?_ | exact Hb.setSameL (by first | omega | (simp only [size_alloc, size_setB, size_drew]; omega)) | exact Hb.setSame (by assumption) | refine Hb.set (by first | omega | (simp only [size_alloc, size_setB, size_drew]; omega)) ?_ )))) | exact PB.b44 (PB.ext hN9 (by repeat (first | assumption | exact Ext.refl _ | refine Ext.alloc ?_ _ | refine Ext.drew ?_ | refine Ext.setB ?_ (by first | omega | (simp only [size_alloc, size_setB, size_drew]; omega)) _ | exact Ext.trans (by assumption) (by assumption) | refine Ext.trans ?_ (by assumption)))) (Hb.mk (Hb.h (by repeat (first | assumption | exact Hb.newY _ _ | refine Hb.alloc ?_ | refine Hb.drew ?_ | refine Hb.ext (by assumption) ?_ | exact Hb.setSameL (by first | omega | (simp only [size_alloc, size_setB, size_drew]; omega)) | exact Hb.setSame (by assumption) | refine Hb.set (by first | omega | (simp only [size_alloc, size_setB, size_drew]; omega)) ?_ ))))), (by first | (refine PB.ext hN10 ?_; (repeat (first | assumption | exact Ext.refl _ | refine Ext.alloc ?_ _ | refine Ext.drew ?_ | refine Ext.setB ?_ (by first | omega | (simp only [size_alloc, size_setB, size_drew]; omega)) _ | refine Ext.trans ?_ (by assumption))); done) | exact PB.b44 hN10 (Hb.mk (Hb.h (by repeat (first | assumption | exact Hb.newY _ _ | refine Hb.alloc ?_ | refine Hb.drew ?_ | refine Hb.ext (by assumption) ?_ | exact Hb.setSameL (by first | omega | (simp only [size_alloc, size_setB, size_drew]; omega)) | exact Hb.setSame (by assumption) | refine Hb.set (by first | omega | (simp only [size_alloc, size_setB, size_drew]; omega)) ?_ )))) | exact PB.b44 (PB.ext hN10 (by repeat (first | assumption | exact Ext.refl _ | refine Ext.alloc ?_ _ | refine Ext.drew ?_ | refine Ext.setB ?_ (by first | omega | (simp only [size_alloc, size_setB, size_drew]; omega)) _ | exact Ext.trans (by assumption) (by assumption) | refine Ext.trans ?_ (by assumption)))) (Hb.mk (Hb.h (by repeat (first | assumption | exact Hb.newY _ _ | refine Hb.alloc ?_ | refine Hb.drew ?_ | refine Hb.ext (by assumption) ?_ | exact Hb.setSameL (by first | omega | (simp only [size_alloc, size_setB, size_drew]; omega)) | exact Hb.setSame (by assumption) | refine Hb.set (by first | omega | (simp only [size_alloc, size_setB, size_drew]; omega)) ?_ )))))⟩
          · refine WH_allocG Hvac.zeroValue44 ?_
            intro b5 v5 hg5 hE5 hH5 hl5
            try simp only [size_alloc, size_setB, size_drew] at hg5
            have hzz5 := hE5.1
            try simp only [size_alloc, size_setB, size_drew] at hzz5
            replace hH5 : Hb v5 b5 (.cells ((encVw vw0).toArray) 44 (0, 0)) := hH5
            refine ⟨fun _ => (by repeat (first | assumption | exact Ext.refl _ | refine Ext.alloc ?_ _ | refine Ext.drew ?_ | refine Ext.setB ?_ (by first | omega | (simp only [size_alloc, size_setB, size_drew]; omega)) _ | exact Ext.trans (by assumption) (by assumption) | refine Ext.trans ?_ (by assumption))), ?_⟩
            refine WH_nil ?_
            refine F_q (i := 15) rfl (by kernel_rfl) ?_
            refine WH_call Hvac.call37 (by rfl) (Ret.mono (small_spec2 _ (OmB.ext hO (by repeat (first | assumption | exact Ext.refl _ | refine Ext.alloc ?_ _ | refine Ext.drew ?_ | refine Ext.setB ?_ (by first | omega | (simp only [size_alloc, size_setB, size_drew]; omega)) _ | exact Ext.trans (by assumption) (by assumption) | refine Ext.trans ?_ (by assumption)))) _ _ _ _ (by first | exact NN.nil _ | assumption | exact NN.ext (by assumption) (by repeat (first | assumption | exact Ext.refl _ | refine Ext.alloc ?_ _ | refine Ext.drew ?_ | refine Ext.setB ?_ (by first | omega | (simp only [size_alloc, size_setB, size_drew]; omega)) _ | exact Ext.trans (by assumption) (by assumption) | refine Ext.trans ?_ (by assumption)))) (by first | assumption | omega | (rw [sz_zero]; omega))) ?_)
            rintro _ w37_22 ⟨hE37_22, rfl⟩
            refine ⟨fun _ => (by repeat (first | assumption | exact Ext.refl _ | refine Ext.alloc ?_ _ | refine Ext.drew ?_ | refine Ext.setB ?_ (by first | omega | (simp only [size_alloc, size_setB, size_drew]; omega)) _ | exact Ext.trans (by assumption) (by assumption) | refine Ext.trans ?_ (by assumption))), ?_⟩
            have hz37_22 := hE37_22.1
            try simp only [size_alloc, size_setB, size_drew] at hz37_22
            refine WH_nil ?_
            refine F_q (i := 16) rfl (by kernel_rfl) ?_
            refine WH_p (PS_conv_u16n Hvac.runUnderlying26 Hvac.runUnderlying42 rfl (by omega) (by omega)) rfl ?_
            refine WH_nil ?_
            refine F_q (i := 17) rfl (by kernel_rfl) ?_
            refine WH_p (PS_move_ptr rfl) rfl ?_
            refine WH_nil ?_
            refine F_q (i := 18) rfl (by kernel_rfl) ?_
            refine WH_p (PS_nilCheck rfl) rfl ?_
            refine WH_nil ?_
            refine F_q (i := 19) rfl (by kernel_rfl) ?_
            refine WH_p (PS_fieldAddr 4 Hvac.runUnderlying121 rfl Hvac.sizeOf92 rfl rfl) rfl ?_
            refine WH_nil ?_
            refine F_q (i := 20) rfl (by kernel_rfl) ?_
            refine WH_load (.slice _ _ _) Hvac.isAgg92 rfl (Hb.h (by repeat (first | assumption | exact Hb.newY _ _ | refine Hb.alloc ?_ | refine Hb.drew ?_ | refine Hb.ext (by assumption) ?_ | exact Hb.setSameL (by first | omega | (simp only [size_alloc, size_setB, size_drew]; omega)) | exact Hb.setSame (by assumption) | refine Hb.set (by first | omega | (simp only [size_alloc, size_setB, size_drew]; omega)) ?_ ))) (Ce.h (by first | assumption | exact ⟨rfl⟩)) ?_
            refine WH_nil ?_
            refine F_q (i := 21) rfl (by kernel_rfl) ?_
            refine WH_call Hvac.call37 (by rfl) (Ret.mono (small_spec2 _ (OmB.ext hO (by repeat (first | assumption | exact Ext.refl _ | refine Ext.alloc ?_ _ | refine Ext.drew ?_ | refine Ext.setB ?_ (by first | omega | (simp only [size_alloc, size_setB, size_drew]; omega)) _ | exact Ext.trans (by assumption) (by assumption) | refine Ext.trans ?_ (by assumption)))) _ _ _ _ (by first | exact NN.nil _ | assumption | exact NN.ext (by assumption) (by repeat (first | assumption | exact Ext.refl _ | refine Ext.alloc ?_ _ | refine Ext.drew ?_ | refine Ext.setB ?_ (by first | omega | (simp only [size_alloc, size_setB, size_drew]; omega)) _ | exact Ext.trans (by assumption) (by assumption) | refine Ext.trans ?_ (by assumption)))) (by first | assumption | omega | (rw [sz_zero]; omega))) ?_)
            rintro _ w37_23 ⟨hE37_23, rfl⟩
            refine ⟨fun _ => (by repeat (first | assumption | exact Ext.refl _ | refine Ext.alloc ?_ _ | refine Ext.drew ?_ | refine Ext.setB ?_ (by first | omega | (simp only [size_alloc, size_setB, size_drew]; omega)) _ | exact Ext.trans (by assumption) (by assumption) | refine Ext.trans ?_ (by assumption))), ?_⟩
            have hz37_23 := hE37_23.1
            try simp only [size_alloc, size_setB, size_drew] at hz37_23
            refine WH_nil ?_
            refine F_q (i := 22) rfl (by kernel_rfl) ?_
            refine WH_p (PS_move_ptr rfl) rfl ?_
            refine WH_nil ?_
            refine F_q (i := 23) rfl (by kernel_rfl) ?_
            refine WH_p (PS_nilCheck rfl) rfl ?_
            refine WH_nil ?_
            refine F_q (i := 24) rfl (by kernel_rfl) ?_
            refine WH_p (PS_fieldAddr 0 Hvac.runUnderlying99 rfl Hvac.sizeOf95 rfl rfl) rfl ?_
            refine WH_nil ?_
            refine F_q (i := 25) rfl (by kernel_rfl) ?_
            refine WH_p (PS_fieldAddr 3 Hvac.runUnderlying95 rfl Hvac.sizeOf92 rfl rfl) rfl ?_
            refine WH_nil ?_
            refine F_q (i := 26) rfl (by kernel_rfl) ?_
            refine WH_load (.slice _ _ _) Hvac.isAgg92 rfl (Hb.h (by repeat (first | assumption | exact Hb.newY _ _ | refine Hb.alloc ?_ | refine Hb.drew ?_ | refine Hb.ext (by assumption) ?_ | exact Hb.setSameL (by first | omega | (simp only [size_alloc, size_setB, size_drew]; omega)) | exact Hb.setSame (by assumption) | refine Hb.set (by first | omega | (simp only [size_alloc, size_setB, size_drew]; omega)) ?_ ))) (Ce.h (by first | assumption | exact ⟨rfl⟩)) ?_
            refine WH_nil ?_
            refine F_q (i := 27) rfl (by kernel_rfl) ?_
            refine WH_call Hvac.call37 (by rfl) (Ret.mono (small_spec2 _ (OmB.ext hO (by repeat (first | assumption | exact Ext.refl _ | refine Ext.alloc ?_ _ | refine Ext.drew ?_ | refine Ext.setB ?_ (by first | omega | (simp only [size_alloc, size_setB, size_drew]; omega)) _ | exact Ext.trans (by assumption) (by assumption) | refine Ext.trans ?_ (by assumption)))) _ _ _ _ (by first | exact NN.nil _ | assumption | exact NN.ext (by assumption) (by repeat (first | assumption | exact Ext.refl _ | refine Ext.alloc ?_ _ | refine Ext.drew ?_ | refine Ext.setB ?_ (by first | omega | (simp only [size_alloc, size_setB, size_drew]; omega)) _ | exact Ext.trans (by assumption) (by assumption) | refine Ext.trans ?_ (by assumption)))) (by first | assumption | omega | (rw [sz_zero]; omega))) ?_)
            rintro _ w37_24 ⟨hE37_24, rfl⟩
            refine ⟨fun _ => (by repeat (first | assumption | exact Ext.refl _ | refine Ext.alloc ?_ _ | refine Ext.drew ?_ | refine Ext.setB ?_ (by first | omega | (simp only [size_alloc, size_setB, size_drew]; omega)) _ | exact Ext.trans (by assumption) (by assumption) | refine Ext.trans ?_ (by assumption))), ?_⟩
            have hz37_24 := hE37_24.1
            try simp only [size_alloc, size_setB, size_drew] at hz37_24
            refine WH_nil ?_
            refine F_q (i := 28) rfl (by kernel_rfl) ?_
            refine WH_p (PS_move_ptr rfl) rfl ?_
            refine WH_nil ?_
            refine F_q (i := 29) rfl (by kernel_rfl) ?_
            refine WH_p (PS_nilCheck rfl) rfl ?_
            refine WH_nil ?_
            refine F_q (i := 30) rfl (by kernel_rfl) ?_
            refine WH_p (PS_fieldAddr 12 Hvac.runUnderlying121 rfl Hvac.sizeOf25 rfl rfl) rfl ?_
            refine WH_nil ?_
            refine F_q (i := 31) rfl (by kernel_rfl) ?_
            refine WH_loadA _ Hvac.isAgg25 Hvac.sizeOf25 rfl (Hb.h (by repeat (first | assumption | exact Hb.newY _ _ | refine Hb.alloc ?_ | refine Hb.drew ?_ | refine Hb.ext (by assumption) ?_ | exact Hb.setSameL (by first | omega | (simp only [size_alloc, size_setB, size_drew]; omega)) | exact Hb.setSame (by assumption) | refine Hb.set (by first | omega | (simp only [size_alloc, size_setB, size_drew]; omega)) ?_ ))) (by first | omega | assumption | rfl | decide | exact Nat.le_refl _ | (simp only [size_ic, Value.cells]; omega) | (simp [encWs]; done) | (simp; omega) | simp | exact encYA_sz (by assumption) | exact encYT_sz (by assumption) | exact encYM_sz (by assumption)) (Xt.h (by first | assumption | exact Xt.whole rfl rfl | exact Xt.whole rfl (by assumption) | exact Xt.whole rfl (by simp only [size_ic, Value.cells]; omega) | exact ⟨rfl⟩)) ?_
            refine WH_nil ?_
            refine F_q (i := 32) rfl (by kernel_rfl) ?_
            refine WH_p (PS_move_ptr rfl) rfl ?_
            refine WH_nil ?_
            refine F_q (i := 33) rfl (by kernel_rfl) ?_
            refine WH_p (PS_nilCheck rfl) rfl ?_
            refine WH_nil ?_
            refine F_q (i := 34) rfl (by kernel_rfl) ?_
            refine WH_p (PS_fieldAddr 32 Hvac.runUnderlying121 rfl Hvac.sizeOf25 rfl rfl) rfl ?_
            refine WH_nil ?_
            refine F_q (i := 35) rfl (by kernel_rfl) ?_
            refine WH_loadA _ Hvac.isAgg25 Hvac.sizeOf25 rfl (Hb.h (by repeat (first | assumption | exact Hb.newY _ _ | refine Hb.alloc ?_ | refine Hb.drew ?_ | refine Hb.ext (by assumption) ?_ | exact Hb.setSameL (by first | omega | (simp only [size_alloc, size_setB, size_drew]; omega)) | exact Hb.setSame (by assumption) | refine Hb.set (by first | omega | (simp only [size_alloc, size_setB, size_drew]; omega)) ?_ ))) (by first | omega | assumption | rfl | decide | exact Nat.le_refl _ | (simp only [size_ic, Value.cells]; omega) | (simp [encWs]; done) | (simp; omega) | simp | exact encYA_sz (by assumption) | exact encYT_sz (by assumption) | exact encYM_sz (by assumption)) (Xt.h (by first | assumption | exact Xt.whole rfl rfl | exact Xt.whole rfl (by assumption) | exact Xt.whole rfl (by simp only [size_ic, Value.cells]; omega) | exact ⟨rfl⟩)) ?_
            refine WH_nil ?_
            refine F_q (i := 36) rfl (by kernel_rfl) ?_
            refine WH_p (PS_move_ptr rfl) rfl ?_
            refine WH_nil ?_
            refine F_q (i := 37) rfl (by kernel_rfl) ?_
            refine WH_p (PS_nilCheck rfl) rfl ?_
            refine WH_nil ?_
            refine F_q (i := 38) rfl (by kernel_rfl) ?_
            refine WH_p (PS_fieldAddr 9 Hvac.runUnderlying121 rfl Hvac.sizeOf32 rfl rfl) rfl ?_
            refine WH_nil ?_
            refine F_q (i := 39) rfl (by kernel_rfl) ?_
            refine WH_load (.slice _ _ _) Hvac.isAgg32 rfl (Hb.h (by repeat (first | assumption | exact Hb.newY _ _ | refine Hb.alloc ?_ | refine Hb.drew ?_ | refine Hb.ext (by assumption) ?_ | exact Hb.setSameL (by first | omega | (simp only [size_alloc, size_setB, size_drew]; omega)) | exact Hb.setSame (by assumption) | refine Hb.set (by first | omega | (simp only [size_alloc, size_setB, size_drew]; omega)) ?_ ))) (Ce.h (by first | assumption | exact ⟨rfl⟩)) ?_
            refine WH_nil ?_
            refine F_q (i := 40) rfl (by kernel_rfl) ?_
            refine WH_call Hvac.call31 (by rfl) (Ret.mono (yBytesOf_spec _ (OmB.ext hO (by repeat (first | assumption | exact Ext.refl _ | refine Ext.alloc ?_ _ | refine Ext.drew ?_ | refine Ext.setB ?_ (by first | omega | (simp only [size_alloc, size_setB, size_drew]; omega)) _ | exact Ext.trans (by assumption) (by assumption) | refine Ext.trans ?_ (by assumption)))) xf.mem.1 xf.mem.2.1 xf.mem.2.2 f.mem (AB.ext hmAB (by repeat (first | assumption | exact Ext.refl _ | refine Ext.alloc ?_ _ | refine Ext.drew ?_ | refine Ext.setB ?_ (by first | omega | (simp only [size_alloc, size_setB, size_drew]; omega)) _ | exact Ext.trans (by assumption) (by assumption) | refine Ext.trans ?_ (by assumption)))) (by omega)) ?_)
            rintro _ w31_25 ⟨hE31_25, s9, rfl, hN9⟩
            refine ⟨fun _ => (by repeat (first | assumption | exact Ext.refl _ | refine Ext.alloc ?_ _ | refine Ext.drew ?_ | refine Ext.setB ?_ (by first | omega | (simp only [size_alloc, size_setB, size_drew]; omega)) _ | exact Ext.trans (by assumption) (by assumption) | refine Ext.trans ?_ (by assumption))), ?_⟩
            have hz31_25 := hE31_25.1
            try simp only [size_alloc, size_setB, size_drew] at hz31_25
            refine WH_nil ?_
            refine F_q (i := 41) rfl (by kernel_rfl) ?_
            refine WH_p (PS_move_ptr rfl) rfl ?_
            refine WH_nil ?_
            refine F_q (i := 42) rfl (by kernel_rfl) ?_
            refine WH_p (PS_nilCheck rfl) rfl ?_
            refine WH_nil ?_
            refine F_q (i := 43) rfl (by kernel_rfl) ?_
            refine WH_p (PS_fieldAddr 10 Hvac.runUnderlying99 rfl Hvac.sizeOf32 rfl rfl) rfl ?_
            refine WH_nil ?_
            refine F_q (i := 44) rfl (by kernel_rfl) ?_
            refine WH_load (.slice _ _ _) Hvac.isAgg32 rfl (Hb.h (by repeat (first | assumption | exact Hb.newY _ _ | refine Hb.alloc ?_ | refine Hb.drew ?_ | refine Hb.ext (by assumption) ?_ | exact Hb.setSameL (by first | omega | (simp only [size_alloc, size_setB, size_drew]; omega)) | exact Hb.setSame (by assumption) | refine Hb.set (by first | omega | (simp only [size_alloc, size_setB, size_drew]; omega)) ?_ ))) (Ce.h (by first | assumption | exact ⟨rfl⟩)) ?_
            refine WH_nil ?_
            refine F_q (i := 45) rfl (by kernel_rfl) ?_
            refine WH_call Hvac.call31 (by rfl) (Ret.mono (yBytesOf_spec _ (OmB.ext hO (by repeat (first | assumption | exact Ext.refl _ | refine Ext.alloc ?_ _ | refine Ext.drew ?_ | refine Ext.setB ?_ (by first | omega | (simp only [size_alloc, size_setB, size_drew]; omega)) _ | exact Ext.trans (by assumption) (by assumption) | refine Ext.trans ?_ (by assumption)))) x.ret.1 x.ret.2.1 x.ret.2.2 y.ret (PB.ab (PB.ext hPrt (by repeat (first | assumption | exact Ext.refl _ | refine Ext.alloc ?_ _ | refine Ext.drew ?_ | refine Ext.setB ?_ (by first | omega | (simp only [size_alloc, size_setB, size_drew]; omega)) _ | exact Ext.trans (by assumption) (by assumption) | refine Ext.trans ?_ (by assumption))))) (by omega)) ?_)
            rintro _ w31_26 ⟨hE31_26, s10, rfl, hN10⟩
            refine ⟨fun _ => (by repeat (first | assumption | exact Ext.refl _ | refine Ext.alloc ?_ _ | refine Ext.drew ?_ | refine Ext.setB ?_ (by first | omega | (simp only [size_alloc, size_setB, size_drew]; omega)) _ | exact Ext.trans (by assumption) (by assumption) | refine Ext.trans ?_ (by assumption))), ?_⟩
            have hz31_26 := hE31_26.1
            try simp only [size_alloc, size_setB, size_drew] at hz31_26
            refine WH_nil ?_
            refine F_q (i := 46) rfl (by kernel_rfl) ?_
            refine WH_p (PS_move_ptr rfl) rfl ?_
            refine WH_nil ?_
            refine F_q (i := 47) rfl (by kernel_rfl) ?_
            refine WH_p (PS_nilCheck rfl) rfl ?_
            refine WH_nil ?_
            refine F_q (i := 48) rfl (by kernel_rfl) ?_
            refine WH_p (PS_fieldAddr 0 Hvac.runUnderlying99 rfl Hvac.sizeOf95 rfl rfl) rfl ?_
            refine WH_nil ?_
            refine F_q (i := 49) rfl (by kernel_rfl) ?_
            refine WH_p (PS_fieldAddr 4 Hvac.runUnderlying95 rfl Hvac.sizeOf76 rfl rfl) rfl ?_
            refine WH_nil ?_
            refine F_q (i := 50) rfl (by kernel_rfl) ?_
            refine WH_load (.slice _ _ _) Hvac.isAgg76 rfl (Hb.h (by repeat (first | assumption | exact Hb.newY _ _ | refine Hb.alloc ?_ | refine Hb.drew ?_ | refine Hb.ext (by assumption) ?_ | exact Hb.setSameL (by first | omega | (simp only [size_alloc, size_setB, size_drew]; omega)) | exact Hb.setSame (by assumption) | refine Hb.set (by first | omega | (simp only [size_alloc, size_setB, size_drew]; omega)) ?_ ))) (Ce.h (by first | assumption | exact ⟨rfl⟩)) ?_
            refine WH_nil ?_
            refine F_q (i := 51) rfl (by kernel_rfl) ?_
            refine WH_p (PS_lenS Hvac.runUnderlying76 rfl) rfl ?_
            refine WH_nil ?_
            refine F_q (i := 52) rfl (by kernel_rfl) ?_
            refine WH_p (PS_conv_u16n Hvac.runUnderlying3 Hvac.runUnderlying42 rfl (by omega) (by omega)) rfl ?_
            refine WH_nil ?_
            refine F_q (i := 53) rfl (by kernel_rfl) ?_
            refine WH_p (PS_b44_r rfl rfl rfl rfl rfl rfl hsbl rfl hsbl2 rfl rfl rfl) rfl ?_
            rw [show (((rest.length + 1 : Nat) : Int) - 1) = (rest.length : Int) by omega, show ((s9.1, s9.2.1, s9.2.2) : SV) = s9 from rfl, show ((s10.1, s10.2.1, s10.2.2) : SV) = s10 from rfl]
            have hszv : (encVw ⟨false, f.statY, rest.length, ysmall f.pc, ysmall f.gas, ysmall y.now.ref, f.self, f.caller, (none, 0, 0), s9, s10, y.now.nlogs⟩).toArray.size = 50 := encVw_sz hsbl hsbl2
            have honev := one_Vw ⟨false, f.statY, rest.length, ysmall f.pc, ysmall f.gas, ysmall y.now.ref, f.self, f.caller, (none, 0, 0), s9, s10, y.now.nlogs⟩
            refine WH_nil ?_
            refine F_q (i := 55) rfl (by kernel_rfl) ?_
            first | refine WH_storeW Hvac.sizeOf44 rfl (v := .agg _) rfl (Hb.h (by repeat (first | assumption | exact Hb.newY _ _ | refine Hb.alloc ?_ | refine Hb.drew ?_ | refine Hb.ext (by assumption) ?_ | exact Hb.setSameL (by first | omega | (simp only [size_alloc, size_setB, size_drew]; omega)) | exact Hb.setSame (by assumption) | refine Hb.set (by first | omega | (simp only [size_alloc, size_setB, size_drew]; omega)) ?_ ))) rfl (by first | omega | assumption | rfl | decide | exact Nat.le_refl _ | (simp only [size_ic, Value.cells]; omega) | (simp [encWs]; done) | (simp; omega) | simp | exact encYA_sz (by assumption) | exact encYT_sz (by assumption) | exact encYM_sz (by assumption)) (by first | omega | assumption | rfl | decide | exact Nat.le_refl _ | (simp only [size_ic, Value.cells]; omega) | (simp [encWs]; done) | (simp; omega) | simp | exact encYA_sz (by assumption) | exact encYT_sz (by assumption) | exact encYM_sz (by assumption)) (by first | exact oneCell_ic | assumption | exact one_Ws2 _ | exact one_YA2 _ | exact one_YSl2 _ | exact one_YM2 _ | exact one_YT2 _ | exact one_L2 _) (fun h => by cases h) ?_ | refine WH_store Hvac.sizeOf44 rfl (v := .agg _) rfl (Hb.h (by repeat (first | assumption | exact Hb.newY _ _ | refine Hb.alloc ?_ | refine Hb.drew ?_ | refine Hb.ext (by assumption) ?_ | exact Hb.setSameL (by first | omega | (simp only [size_alloc, size_setB, size_drew]; omega)) | exact Hb.setSame (by assumption) | refine Hb.set (by first | omega | (simp only [size_alloc, size_setB, size_drew]; omega)) ?_ ))) (by first | omega | assumption | rfl | decide | exact Nat.le_refl _ | (simp only [size_ic, Value.cells]; omega) | (simp [encWs]; done) | (simp; omega) | simp | exact encYA_sz (by assumption) | exact encYT_sz (by assumption) | exact encYM_sz (by assumption)) (by first | omega | assumption | rfl | decide | exact Nat.le_refl _ | (simp only [size_ic, Value.cells]; omega) | (simp [encWs]; done) | (simp; omega) | simp | exact encYA_sz (by assumption) | exact encYT_sz (by assumption) | exact encYM_sz (by assumption)) (by first | exact oneCell_ic | assumption | exact one_Ws2 _ | exact one_YA2 _ | exact one_YSl2 _ | exact one_YM2 _ | exact one_YT2 _ | exact one_L2 _) (fun h => by cases h) ?_
            refine WH_nil ?_
            refine F_end ?_
            refine thn_normal ?_
            exact ⟨b5, s9, s10, ⟨rfl, rfl, rfl, trivial⟩, (by repeat (first | assumption | exact Ext.refl _ | refine Ext.alloc ?_ _ | refine Ext.drew ?_ | refine Ext.setB ?_ (by first | omega | (simp only [size_alloc, size_setB, size_drew]; omega)) _ | exact Ext.trans (by assumption) (by assumption) | refine Ext.trans ?_ (by assumption))), by omega, by omega, Hb.mk (Hb.h (by repeat (first | assumption | exact Hb.newY _ _ | refine Hb.alloc ?_ | refine Hb.drew ?_ | refine Hb.ext (by assumption) ?_ | exact Hb.setSameL (by first | omega | (simp only [size_alloc, size_setB, size_drew]; omega)) | exact Hb.setSame (by assumption) | refine Hb.set (by first | omega | (simp only [size_alloc, size_setB, size_drew]; omega)) ?_ ))), Hb.mk (Hb.h (by repeat (first | assumption | exact Hb.newY _ _ | refine Hb.alloc ?_ | refine Hb.drew ?_ | refine Hb.ext (by assumption) ?_ | exact Hb.setSameL (by first | omega | (simp only [size_alloc, size_setB, size_drew]; omega)) | exact Hb.setSame (by assumption) | refine Hb.set (by first | omega | (simp only [size_alloc, size_setB, size_drew]; omega)) ?_ ))), (by first | (refine PB.ext hN9 ?_; (repeat (first | assumption | exact Ext.refl _ | refine Ext.alloc ?_ _ | refine Ext.drew ?_ | refine Ext.setB ?_ (by first | omega | (simp only [size_alloc, size_setB, size_drew]; omega)) _ | refine Ext.trans ?_ (by assumption))); done) | exact PB.b44 hN9 (Hb.mk (Hb.h (by repeat (first | assumption | exact Hb.newY _ _ | refine Hb.alloc ?_ | refine Hb.drew ?_ | refine Hb.ext (by assumption) ?_ | exact Hb.setSameL (by first | omega | (simp only [size_alloc, size_setB, size_drew]; omega)) | exact Hb.setSame (by assumption) | refine Hb.set (by first | omega | (simp only [size_alloc, size_setB, size_drew]; omega)) ?_ )))) | exact PB.b44 (PB.ext hN9 (by repeat (first | assumption | exact Ext.refl _ | refine Ext.alloc ?_ _ | refine Ext.drew ?_ | refine Ext.setB ?_ (by first | omega | (simp only [size_alloc, size_setB, size_drew]; omega)) _ | exact Ext.trans (by assumption) (by assumption) | refine Ext.trans ?_ (by assumption)))) (Hb.mk (Hb.h (by repeat (first | assumption | exact Hb.newY _ _ | refine Hb.alloc ?_ | refine Hb.drew ?_ | refine Hb.ext (by assumption) ?_ | exact Hb.setSameL (by first | omega | (simp only [size_alloc, size_setB, size_drew]; omega)) | exact Hb.setSame (by assumption) | refine Hb.set (by first | omega | (simp only [size_alloc, size_setB, size_drew]; omega)) ?_ ))))), (by first | (refine PB.ext hN10 ?_; (repeat (first | assumption | exact Ext.refl _ | refine Ext.alloc ?_ _ | refine Ext.drew ?_ | refine Ext.setB ?_ (by first | omega | (simp only [size_alloc, size_setB, size_drew]; omega)) _ | refine Ext.trans ?_ (by assumption))); done) | exact PB.b44 hN10 (Hb.mk (Hb.h (by repeat (first | assumption | exact Hb.newY _ _ | refine Hb.alloc ?_ | refine Hb.drew ?_ | refine Hb.ext (by assumption) ?_ | exact Hb.setSameL (by first | omega | (simp only [size_alloc, size_setB, size_drew]; omega)) | exact Hb.setSame (by assumption) | refine Hb.set (by first | omega | (simp only [size_alloc, size_setB, size_drew]; omega)) ?_ )))) | exact PB.b44 (PB.ext hN10 (by repeat (first | assumption | exact Ext.refl _ | refine Ext.alloc ?_ _ | refine Ext.drew ?_ | refine Ext.setB ?_ (by first | omega | (simp only [size_alloc, size_setB, size_drew]; omega)) _ | exact Ext.trans (by assumption) (by assumption) | refine Ext.trans ?_ (by assumption)))) (Hb.mk (Hb.h (by repeat (first | assumption | exact Hb.newY _ _ | refine Hb.alloc ?_ | refine Hb.drew ?_ | refine Hb.ext (by assumption) ?_ | exact Hb.setSameL (by first | omega | (simp only [size_alloc, size_setB, size_drew]; omega)) | exact Hb.setSame (by assumption) | refine Hb.set (by first | omega | (simp only [size_alloc, size_setB, size_drew]; omega)) ?_ )))))⟩
        · rintro ρ8 w8 ⟨b5, s9, s10, hFr8, hE8, hg5, hne25, hb28, hb58, hP9, hP10⟩
          refine W_env _ hFr8 ?_
          have hz8 := hE8.1
          have hb28l := hb28.lt
          have hb58l := hb58.lt
          obtain ⟨LS, hPS, hRS⟩ := hFR.stack
          have hRSl := hRS.len
          obtain ⟨sS, hsS⟩ : ∃ sS, sS = xf.stack := ⟨_, rfl⟩
          have hk8 := hFC.stack
          rw [← hsS] at hPS hk8
          obtain ⟨pS, nS, cS⟩ := sS
          have hPSl := hPS.len
          dsimp only at hPSl hk8
          have hO8 := hO.ext hE8
          refine W_seq ?_
          refine W_seq ?_
          refine W_region rfl ?_
          refine WO_p (PS_move_ptr rfl) ?_
          refine WO_p (PS_nilCheck rfl) ?_
          refine WO_p (PS_fieldAddr 8 Hvac.runUnderlying121 rfl Hvac.sizeOf119 rfl rfl) ?_
          refine WO_load (.slice _ _ _) Hvac.isAgg119 rfl (Hb.h (by repeat (first | assumption | exact Hb.newY _ _ | refine Hb.alloc ?_ | refine Hb.drew ?_ | refine Hb.ext (by assumption) ?_ | exact Hb.setSameL (by first | omega | (simp only [size_alloc, size_setB, size_drew]; omega)) | exact Hb.setSame (by assumption) | refine Hb.set (by first | omega | (simp only [size_alloc, size_setB, size_drew]; omega)) ?_ ))) (Ce.h (by first | assumption | exact ⟨rfl⟩)) ?_
          refine WO_p (PS_lenS Hvac.runUnderlying119 rfl) ?_
          refine WO_p (PS_move_int rfl) ?_
          refine WO_nil ?_
          refine thn_normal ?_
          refine W_block ?_
          refine W_loopN (fun m ρ w' => ∃ (i : Nat) (so : Option (Nat × Nat)) (K : List (List Int)), i + m = nS ∧ K = (f.stack.take i).map be32N ∧ BL encW32 32 28 w8 [] w' so K ∧ KeepO (fun b => b = b5) w8 w' ∧ Hb w' b5 (.cells (encVw ⟨false, f.statY, rest.length, ysmall f.pc, ysmall f.gas, ysmall y.now.ref, f.self, f.caller, (slp so, K.length, slc so), s9, s10, y.now.nlogs⟩).toArray 44 (0, 0)) ∧ Fr [(2, .pointer (some ⟨b2, 0, none⟩)), (4, .pointer (some ⟨F, rest.length * 60, none⟩)), (5, .pointer (some ⟨b5, 0, none⟩)), (122, .slice pS nS cS), (123, .int .i64 nS), (124, .int .i64 i)] ρ) nS ?_ ?_
          · exact ⟨0, none, [], by omega, rfl, BL.nil _ _ _ _ _ _, KeepO.refl _ _, hb58, ⟨rfl, rfl, rfl, rfl, rfl, rfl, trivial⟩⟩
          intro mL ρL wL hIL
          obtain ⟨i, so, K, him, hKe, hBL, hKL, hb5L, hFL⟩ := hIL
          refine W_env _ hFL ?_
          have hzL := hKL.sz
          have hb5Ll := hb5L.lt
          replace hO := hO8.keep hKL
          have hKl : K.length ≤ 1000 := by rw [hKe, List.length_map, List.length_take]; omega
          have hszL : (encVw ⟨false, f.statY, rest.length, ysmall f.pc, ysmall f.gas, ysmall y.now.ref, f.self, f.caller, (slp so, K.length, slc so), s9, s10, y.now.nlogs⟩).toArray.size = 50 := encVw_sz hsbl hsbl2
          have hk46 : Ce (encVw ⟨false, f.statY, rest.length, ysmall f.pc, ysmall f.gas, ysmall y.now.ref, f.self, f.caller, (slp so, K.length, slc so), s9, s10, y.now.nlogs⟩).toArray (0 + 46) (.slice (slp so) K.length (slc so)) := encVw_8 (v := ⟨false, f.statY, rest.length, ysmall f.pc, ysmall f.gas, ysmall y.now.ref, f.self, f.caller, (slp so, K.length, slc so), s9, s10, y.now.nlogs⟩) hsbl hsbl2
          have hEwL : Ext w wL := ext_keep hE8 hKL (fun b e => by omega)
          refine W_seq ?_
          refine W_region rfl ?_
          refine WO_p (PS_lss rfl rfl) ?_
          refine WO_nil ?_
          refine thn_normal ?_
          refine W_seq ?_
          refine W_if rfl (fun hb29 => ?_) (fun hb29 => ?_)
          · have hb29p := hb29.h; try simp only [al_ete, al_dfn, Bool.not_eq_true', Bool.not_eq_false', al_ne, Bool.not_not, al_nn] at hb29p
            obtain ⟨a, ya, ha, hya0, hyn⟩ := hRS.get (i := i) (by omega)
            obtain ⟨bS, rS, fzS, hpS, hbS, hrsS, hXS⟩ := pl_at hPS ha rfl
            subst hpS
            have hbSL := hbS.ext hEwL
            have hceS : Ce rS (0 + i * 1) (.slice a.1 a.2.1 a.2.2) := hXS.ce hrsS (k := 0) ⟨rfl⟩ (by decide)
            have hya : NN wL a ya := NN.ext hyn hEwL
            have hzya : sz ya ≤ 32 := hP.st ya (List.mem_of_getElem? hya0)
            have hby := (be32N_by ya).1
            refine W_skip ?_
            refine thn_normal ?_
            refine W_seq ?_
            refine W_block ?_
            refine W_seq ?_
            refine W_region rfl ?_
            refine WO_p (PS_indexS Hvac.runUnderlying119 Hvac.sizeOf92 rfl rfl (by omega) (by omega)) ?_
            refine WO_load (.slice _ _ _) Hvac.isAgg92 rfl (Hb.h (by repeat (first | assumption | exact Hb.newY _ _ | refine Hb.alloc ?_ | refine Hb.drew ?_ | refine Hb.ext (by assumption) ?_ | exact Hb.setSameL (by first | omega | (simp only [size_alloc, size_setB, size_drew]; omega)) | exact Hb.setSame (by assumption) | refine Hb.set (by first | omega | (simp only [size_alloc, size_setB, size_drew]; omega)) ?_ ))) (Ce.h (by first | assumption | exact ⟨rfl⟩)) ?_
            refine WO_p (PS_assign_slice rfl) ?_
            refine WO_nil ?_
            refine thn_normal ?_
            refine W_drawE [false, false, false, true, true, false, false, false] hmix (by kernel_rfl) rfl ?_
            refine WH_p (PS_fieldAddr 46 Hvac.runUnderlying44 rfl Hvac.sizeOf29 rfl rfl) rfl ?_
            refine WH_load (.slice _ _ _) Hvac.isAgg29 rfl (Hb.h (by repeat (first | assumption | exact Hb.newY _ _ | refine Hb.alloc ?_ | refine Hb.drew ?_ | refine Hb.ext (by assumption) ?_ | exact Hb.setSameL (by first | omega | (simp only [size_alloc, size_setB, size_drew]; omega)) | exact Hb.setSame (by assumption) | refine Hb.set (by first | omega | (simp only [size_alloc, size_setB, size_drew]; omega)) ?_ ))) (Ce.h (by first | assumption | exact ⟨rfl⟩)) ?_
            refine WH_p (PS_move_slice rfl) rfl ?_
            refine WH_call Hvac.call38 (by rfl) (Ret.mono (word_spec _ (OmB.ext hO (by repeat (first | assumption | exact Ext.refl _ | refine Ext.alloc ?_ _ | refine Ext.drew ?_ | refine Ext.setB ?_ (by first | omega | (simp only [size_alloc, size_setB, size_drew]; omega)) _ | exact Ext.trans (by assumption) (by assumption) | refine Ext.trans ?_ (by assumption)))) _ _ _ _ (NN.ext hya (by repeat (first | assumption | exact Ext.refl _ | refine Ext.alloc ?_ _ | refine Ext.drew ?_ | refine Ext.setB ?_ (by first | omega | (simp only [size_alloc, size_setB, size_drew]; omega)) _ | exact Ext.trans (by assumption) (by assumption) | refine Ext.trans ?_ (by assumption)))) (by omega)) ?_)
            rintro _ w38 ⟨hE38, rfl⟩
            refine ⟨fun _ => (by repeat (first | assumption | exact Ext.refl _ | refine Ext.alloc ?_ _ | refine Ext.drew ?_ | refine Ext.setB ?_ (by first | omega | (simp only [size_alloc, size_setB, size_drew]; omega)) _ | exact Ext.trans (by assumption) (by assumption) | refine Ext.trans ?_ (by assumption))), ?_⟩
            have hz38 := hE38.1
            try simp only [size_alloc, size_setB, size_drew] at hz38
            refine WH_buildSlice1 Hvac.runUnderlying29 Hvac.sizeOf28 Hvac.zeroValue28 rfl (by first | omega | assumption | rfl | decide | exact Nat.le_refl _ | (simp only [size_ic, Value.cells]; omega) | (simp [encWs]; done) | (simp; omega) | simp | exact encYA_sz (by assumption) | exact encYT_sz (by assumption) | exact encYM_sz (by assumption)) (by decide) (by decide) (fun _ => (by repeat (first | assumption | exact Ext.refl _ | refine Ext.alloc ?_ _ | refine Ext.drew ?_ | refine Ext.setB ?_ (by first | omega | (simp only [size_alloc, size_setB, size_drew]; omega)) _ | exact Ext.trans (by assumption) (by assumption) | refine Ext.trans ?_ (by assumption)))) ?_
            refine WH_appK (be32N ya) ap_W32 (BL.ext hBL (by repeat (first | assumption | exact Ext.refl _ | refine Ext.alloc ?_ _ | refine Ext.drew ?_ | refine Ext.setB ?_ (by first | omega | (simp only [size_alloc, size_setB, size_drew]; omega)) _ | exact Ext.trans (by assumption) (by assumption) | refine Ext.trans ?_ (by assumption)))) (by first | omega | (simp only [size_alloc, size_setB, size_drew]; omega)) (by simp) (by omega) (by simp [encW32, hby]) (Hb.mk (Hb.h (by repeat (first | assumption | exact Hb.newY _ _ | refine Hb.alloc ?_ | refine Hb.drew ?_ | refine Hb.ext (by assumption) ?_ | exact Hb.setSameL (by first | omega | (simp only [size_alloc, size_setB, size_drew]; omega)) | exact Hb.setSame (by assumption) | refine Hb.set (by first | omega | (simp only [size_alloc, size_setB, size_drew]; omega)) ?_ )))) rfl rfl ?_
            intro so24 w24 hB24 hk24
            have hz24 := hk24.sz
            try simp only [size_alloc, size_setB, size_drew] at hz24
            have hb5_24 : Hb w24 b5 (.cells (encVw ⟨false, f.statY, rest.length, ysmall f.pc, ysmall f.gas, ysmall y.now.ref, f.self, f.caller, (slp so, K.length, slc so), s9, s10, y.now.nlogs⟩).toArray 44 (0, 0)) := Hb.keepO hk24 (fun e => absurd (hBL.fr b5 e).1 (by omega)) (Hb.mk (Hb.h (by repeat (first | assumption | exact Hb.newY _ _ | refine Hb.alloc ?_ | refine Hb.drew ?_ | refine Hb.ext (by assumption) ?_ | exact Hb.setSameL (by first | omega | (simp only [size_alloc, size_setB, size_drew]; omega)) | exact Hb.setSame (by assumption) | refine Hb.set (by first | omega | (simp only [size_alloc, size_setB, size_drew]; omega)) ?_ ))))
            have hK24 : KeepO (fun b => b = b5) w8 w24 := by
              refine KeepO.trans ?_ hk24 (fun b hb e => absurd (hBL.fr b e).1 (by omega))
              exact hKL.extR (by repeat (first | assumption | exact Ext.refl _ | refine Ext.alloc ?_ _ | refine Ext.drew ?_ | refine Ext.setB ?_ (by first | omega | (simp only [size_alloc, size_setB, size_drew]; omega)) _ | exact Ext.trans (by assumption) (by assumption) | refine Ext.trans ?_ (by assumption)))
            have hb5_24l := hb5_24.lt
            refine ⟨(fun h => by cases h), ?_⟩
            refine WH_p (PS_fieldAddr 46 Hvac.runUnderlying44 rfl Hvac.sizeOf29 rfl rfl) rfl ?_
            refine WH_store1 Hvac.sizeOf29 rfl (v := (.slice _ _ _)) rfl (Hb.h (by repeat (first | assumption | exact Hb.newY _ _ | refine Hb.alloc ?_ | refine Hb.drew ?_ | refine Hb.ext (by assumption) ?_ | exact Hb.setSameL (by first | omega | (simp only [size_alloc, size_setB, size_drew]; omega)) | exact Hb.setSame (by assumption) | refine Hb.set (by first | omega | (simp only [size_alloc, size_setB, size_drew]; omega)) ?_ ))) rfl (by first | omega | assumption | rfl | decide | exact Nat.le_refl _ | (simp only [size_ic, Value.cells]; omega) | (simp [encWs]; done) | (simp; omega) | simp | exact encYA_sz (by assumption) | exact encYT_sz (by assumption) | exact encYM_sz (by assumption)) rfl (fun h => by cases h) ?_
            refine WH_nil ?_
            refine inBlk_normal ?_
            refine thn_normal ?_
            refine W_region rfl ?_
            refine WO_p (PS_add_i64n rfl rfl (by omega) (by omega)) ?_
            refine WO_p (PS_move_int rfl) ?_
            refine WO_nil ?_
            refine thn_normal ?_
            exact ⟨mL - 1, by omega, i + 1, so24, K ++ [be32N ya], by omega, by rw [take_sn hya0, List.map_append, ← hKe]; rfl, hB24.set (Or.inr (by omega)) _, KeepO.setB hK24 (fun _ => rfl) _, by rw [encVw_st (v := ⟨false, f.statY, rest.length, ysmall f.pc, ysmall f.gas, ysmall y.now.ref, f.self, f.caller, (slp so, K.length, slc so), s9, s10, y.now.nlogs⟩) hsbl hsbl2]; exact Hb.setSame hb5_24, ⟨rfl, rfl, rfl, rfl, rfl, congrArg (Value.int .i64) (by omega), trivial⟩⟩
          · have hb29p := hb29.h; try simp only [al_ete, al_dfn, Bool.not_eq_true', Bool.not_eq_false', al_ne, Bool.not_not, al_nn] at hb29p
            have hb2L : Hb wL b2 (.cells (encVw vw0).toArray 44 (0, 0)) := hb28.keepO hKL (fun e => absurd e hne25)
            have hb2Ll := hb2L.lt
            have honeL := one_Vw ⟨false, f.statY, rest.length, ysmall f.pc, ysmall f.gas, ysmall y.now.ref, f.self, f.caller, (slp so, K.length, slc so), s9, s10, y.now.nlogs⟩
            have hil : f.stack.take i = f.stack := List.take_of_length_le (by omega)
            rw [hil] at hKe
            refine W_exit ?_
            refine thn_exit ?_
            refine thn_exit ?_
            refine inBlk_exit ?_
            refine thn_normal ?_
            refine W_seq ?_
            refine W_region rfl ?_
            refine WO_loadA _ Hvac.isAgg44 Hvac.sizeOf44 rfl (Hb.h (by repeat (first | assumption | exact Hb.newY _ _ | refine Hb.alloc ?_ | refine Hb.drew ?_ | refine Hb.ext (by assumption) ?_ | exact Hb.setSameL (by first | omega | (simp only [size_alloc, size_setB, size_drew]; omega)) | exact Hb.setSame (by assumption) | refine Hb.set (by first | omega | (simp only [size_alloc, size_setB, size_drew]; omega)) ?_ ))) (by first | omega | assumption | rfl | decide | exact Nat.le_refl _ | (simp only [size_ic, Value.cells]; omega) | (simp [encWs]; done) | (simp; omega) | simp | exact encYA_sz (by assumption) | exact encYT_sz (by assumption) | exact encYM_sz (by assumption)) (Xt.h (by first | assumption | exact Xt.whole rfl rfl | exact Xt.whole rfl (by assumption) | exact Xt.whole rfl (by simp only [size_ic, Value.cells]; omega) | exact ⟨rfl⟩)) ?_
            first | refine WO_storeW Hvac.sizeOf44 rfl (v := .agg _) rfl (Hb.h (by repeat (first | assumption | exact Hb.newY _ _ | refine Hb.alloc ?_ | refine Hb.drew ?_ | refine Hb.ext (by assumption) ?_ | exact Hb.setSameL (by first | omega | (simp only [size_alloc, size_setB, size_drew]; omega)) | exact Hb.setSame (by assumption) | refine Hb.set (by first | omega | (simp only [size_alloc, size_setB, size_drew]; omega)) ?_ ))) rfl (by first | omega | assumption | rfl | decide | exact Nat.le_refl _ | (simp only [size_ic, Value.cells]; omega) | (simp [encWs]; done) | (simp; omega) | simp | exact encYA_sz (by assumption) | exact encYT_sz (by assumption) | exact encYM_sz (by assumption)) (by first | omega | assumption | rfl | decide | exact Nat.le_refl _ | (simp only [size_ic, Value.cells]; omega) | (simp [encWs]; done) | (simp; omega) | simp | exact encYA_sz (by assumption) | exact encYT_sz (by assumption) | exact encYM_sz (by assumption)) (by first | exact oneCell_ic | assumption | exact one_Ws2 _ | exact one_YA2 _ | exact one_YSl2 _ | exact one_YM2 _ | exact one_YT2 _ | exact one_L2 _) ?_ | refine WO_store Hvac.sizeOf44 rfl (v := .agg _) rfl (Hb.h (by repeat (first | assumption | exact Hb.newY _ _ | refine Hb.alloc ?_ | refine Hb.drew ?_ | refine Hb.ext (by assumption) ?_ | exact Hb.setSameL (by first | omega | (simp only [size_alloc, size_setB, size_drew]; omega)) | exact Hb.setSame (by assumption) | refine Hb.set (by first | omega | (simp only [size_alloc, size_setB, size_drew]; omega)) ?_ ))) (by first | omega | assumption | rfl | decide | exact Nat.le_refl _ | (simp only [size_ic, Value.cells]; omega) | (simp [encWs]; done) | (simp; omega) | simp | exact encYA_sz (by assumption) | exact encYT_sz (by assumption) | exact encYM_sz (by assumption)) (by first | omega | assumption | rfl | decide | exact Nat.le_refl _ | (simp only [size_ic, Value.cells]; omega) | (simp [encWs]; done) | (simp; omega) | simp | exact encYA_sz (by assumption) | exact encYT_sz (by assumption) | exact encYM_sz (by assumption)) (by first | exact oneCell_ic | assumption | exact one_Ws2 _ | exact one_YA2 _ | exact one_YSl2 _ | exact one_YM2 _ | exact one_YT2 _ | exact one_L2 _) ?_
            refine WO_nil ?_
            refine thn_normal ?_
            refine W_ret ?_
            refine bodyQ_cell1 Hvac.results9 rfl Hvac.isAgg44 Hvac.sizeOf44 rfl (Hb.h (by repeat (first | assumption | exact Hb.newY _ _ | refine Hb.alloc ?_ | refine Hb.drew ?_ | refine Hb.ext (by assumption) ?_ | exact Hb.setSameL (by first | omega | (simp only [size_alloc, size_setB, size_drew]; omega)) | exact Hb.setSame (by assumption) | refine Hb.set (by first | omega | (simp only [size_alloc, size_setB, size_drew]; omega)) ?_ ))) (by first | omega | assumption | rfl | decide | exact Nat.le_refl _ | (simp only [size_ic, Value.cells]; omega) | (simp [encWs]; done) | (simp; omega) | simp | exact encYA_sz (by assumption) | exact encYT_sz (by assumption) | exact encYM_sz (by assumption)) ?_
            exact ⟨Ext.setB hEwL (by omega) _, (slp so, K.length, slc so), s9, s10, rfl, (by rw [← hKe]; exact (hBL.pl hO8).kt (KT.setB hb2L (by decide))), PB.b44 (PB.kt hP9 (KT.kf hb58 hKL (by decide))) hb2L, PB.b44 (PB.kt hP10 (KT.kf hb58 hKL (by decide))) hb2L⟩

end Go.Proofs.YgvacwGreat
