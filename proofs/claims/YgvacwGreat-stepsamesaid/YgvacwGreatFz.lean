import Derived.Test.YgvacwGreatFy
namespace Go.Proofs.YgvacwGreat
set_option linter.unusedSimpArgs false
set_option linter.unusedVariables false

set_option maxRecDepth 10000 in
set_option maxHeartbeats 4000000 in
theorem eViewR_spec [Om] (C : Nat) (c : Array Value) (v : V) (B : VB) (m : Mc) (t : Nat) (f : Fm) (k lo n : Nat) (w : World) (hM : MS w C c v B m) (hR : Run m t f) (L : List Int) (hBX : BufX w m.buf L) (hT : MemT m t lo n) (hrt : m.ret.2.1 ≤ 1000000) : Ret Hvac.prog 36 #[.pointer (some ⟨C, 0, none⟩)] w fun u w' => Ext w w' ∧ ∃ s8 s9 s10 : SV, u = .agg (encVw ⟨false, f.static, (t : Int), f.pc, f.gas, v.ref, f.self, f.caller, s8, s9, s10, (v.logs.length : Int)⟩).toArray ∧ PL encW32 32 28 w' s8 ((List.range f.sp.toNat).map fun j => be32 (m.stack.getD (64 * t + j) [0, 0, 0, 0])) ∧ MB w' s9 ((L.drop lo).take n) ∧ MB w' s10 (rdB w m.ret) := by
  have hR0 := hR
  have hblk := hM.vs.blk
  have hcs := hM.sz
  have hc_s := hM.rep.s
  have hc_top := hM.rep.top
  have hc_ph := hM.rep.phase
  obtain ⟨⟨ht6, hf, hsb, hsp⟩, hph, htop⟩ := hR
  obtain ⟨ht7, hfty, hF⟩ := hM.openF hf
  rw [hph] at hc_ph
  rw [htop] at hc_top
  have hO : OmB w := hM.om
  have hsz0 : (encVw vw0).toArray.size = 50 := encVw_sz rfl rfl
  have hf_st := hF.static
  have hf_pc := hF.pc
  have hf_g := hF.gas
  have hf_sb := hF.sbase
  have hf_sp := hF.sp
  have hf_sf := hF.self
  have hf_ca := hF.caller
  have hc_l := hM.vs.rep.logs
  have hc_r := hM.rep.ret
  have hll := hM.vs.ty.ll
  have hsfl := hfty.self.1
  have hcal := hfty.caller.1
  have hspt := hfty.sp
  have hrb := hM.ret.rd.by_
  have hmb : ∀ x ∈ (L.drop lo).take n, 0 ≤ x ∧ x ≤ 255 := by
    rcases hBX with ⟨_, h2⟩ | ⟨b, _, _, h3, _⟩
    · rw [h2]; simp
    · exact by_part h3 lo n
  refine Ret_of_W Hvac.func36 rfl rfl ?_
  refine W_seq ?_
  refine W_region rfl ?_
  refine WO_allocG Hvac.zeroValue44 ?_
  intro b2 v2 hg2 hE2 hH2 hl2
  try simp only [size_alloc, size_setB, size_drew] at hg2
  have hzz2 := hE2.1
  try simp only [size_alloc, size_setB, size_drew] at hzz2
  replace hH2 : Hb v2 b2 (.cells ((encVw vw0).toArray) 44 (0, 0)) := hH2
  refine WO_nil ?_
  refine thn_normal ?_
  refine W_seq ?_
  refine W_region rfl ?_
  refine WO_p (PS_move_ptr rfl) ?_
  refine WO_call Hvac.call95 (by rfl) (Ret.mono (running_spec C c v B m t f _ (MS.ext hM (by repeat (first | assumption | exact Ext.refl _ | refine Ext.alloc ?_ _ | refine Ext.drew ?_ | refine Ext.setB ?_ (by first | omega | (simp only [size_alloc, size_setB, size_drew]; omega)) _ | exact Ext.trans (by assumption) (by assumption) | refine Ext.trans ?_ (by assumption)))) hR0) ?_)
  rintro _ w95_0 ⟨hE95_0, rfl⟩
  have hz95_0 := hE95_0.1
  try simp only [size_alloc, size_setB, size_drew] at hz95_0
  refine WO_p (PS_assign_ptr rfl) ?_
  refine WO_nil ?_
  refine thn_normal ?_
  refine W_seq ?_
  refine W_seq ?_
  refine W_region rfl ?_
  refine WO_p (PS_move_ptr rfl) ?_
  refine WO_p (PS_eqlnil Hvac.underlying187 rfl) ?_
  refine WO_nil ?_
  refine thn_normal ?_
  refine W_if rfl (fun hb3 => ?_) (fun hb3 => ?_)
  · have hb3p := hb3.h; try simp only [al_ete, al_dfn, Bool.not_eq_true', Bool.not_eq_false', al_ne, Bool.not_not, al_nn] at hb3p
    exfalso; simp at hb3p --END
  · have hb3p := hb3.h; try simp only [al_ete, al_dfn, Bool.not_eq_true', Bool.not_eq_false', al_ne, Bool.not_not, al_nn] at hb3p
    refine W_skip ?_
    refine thn_normal ?_
    refine W_seqJ (fun ρ w' => ∃ (b5 : Nat) (s9 s10 : SV), Fr [(0, .pointer (some ⟨C, 0, none⟩)), (2, .pointer (some ⟨b2, 0, none⟩)), (3, .pointer (some ⟨C, 1803 + t * 65, none⟩)), (5, .pointer (some ⟨b5, 0, none⟩))] ρ ∧ Ext w w' ∧ w.heap.size ≤ b5 ∧ b2 ≠ b5 ∧ Hb w' b2 (.cells (encVw vw0).toArray 44 (0, 0)) ∧ Hb w' b5 (.cells (encVw ⟨false, f.static, (t : Int), f.pc, f.gas, v.ref, f.self, f.caller, (none, 0, 0), s9, s10, (v.logs.length : Int)⟩).toArray 44 (0, 0)) ∧ MB w' s9 ((L.drop lo).take n) ∧ MB w' s10 (rdB w m.ret)) ?_ ?_
    · skip
      refine W_drawF [false, false, false, false, false, false, false, false, false, false, false, false, false, false, false, false, false, false, false, false, false, true, false, false, false, false, false, false, false, false, false, false, false, false, false, false, true, true, false, false, false, false, true, false, false, false, false, false, false, false, false, false, false, false, true, false] [54] [0, 1, 2, 3, 4, 5, 6, 7, 8, 9, 10, 11, 12, 13, 14, 15, 16, 17, 18, 19, 20, 21, 22, 23, 24, 25, 26, 27, 28, 29, 30, 31, 32, 33, 34, 35, 36, 37, 38, 39, 40, 41, 42, 43, 44, 45, 46, 47, 48, 49, 50, 51, 52, 53, 55] hmix (by kernel_rfl) rfl rfl rfl ?_
      refine F_q (i := 0) rfl (by kernel_rfl) ?_
      refine WH_p (PS_move_ptr rfl) rfl ?_
      refine WH_nil ?_
      refine F_q (i := 1) rfl (by kernel_rfl) ?_
      refine WH_p (PS_nilCheck rfl) rfl ?_
      refine WH_nil ?_
      refine F_q (i := 2) rfl (by kernel_rfl) ?_
      refine WH_p (PS_fieldAddr 3 Hvac.runUnderlying66 rfl Hvac.sizeOf4 rfl rfl) rfl ?_
      refine WH_nil ?_
      refine F_q (i := 3) rfl (by kernel_rfl) ?_
      refine WH_load (.bool _) Hvac.isAgg4 rfl (Hb.h (by repeat (first | assumption | exact Hb.newY _ _ | refine Hb.alloc ?_ | refine Hb.drew ?_ | refine Hb.ext (by assumption) ?_ | exact Hb.setSameL (by first | omega | (simp only [size_alloc, size_setB, size_drew]; omega)) | exact Hb.setSame (by assumption) | refine Hb.set (by first | omega | (simp only [size_alloc, size_setB, size_drew]; omega)) ?_ ))) (Ce.h (by first | assumption | exact ⟨rfl⟩)) ?_
      refine WH_nil ?_
      refine F_q (i := 4) rfl (by kernel_rfl) ?_
      refine WH_p (PS_move_ptr rfl) rfl ?_
      refine WH_nil ?_
      refine F_q (i := 5) rfl (by kernel_rfl) ?_
      refine WH_p (PS_nilCheck rfl) rfl ?_
      refine WH_nil ?_
      refine F_q (i := 6) rfl (by kernel_rfl) ?_
      refine WH_p (PS_fieldAddr 2258 Hvac.runUnderlying70 rfl Hvac.sizeOf68 rfl rfl) rfl ?_
      refine WH_nil ?_
      refine F_q (i := 7) rfl (by kernel_rfl) ?_
      refine WH_load (.int _ _) Hvac.isAgg68 rfl (Hb.h (by repeat (first | assumption | exact Hb.newY _ _ | refine Hb.alloc ?_ | refine Hb.drew ?_ | refine Hb.ext (by assumption) ?_ | exact Hb.setSameL (by first | omega | (simp only [size_alloc, size_setB, size_drew]; omega)) | exact Hb.setSame (by assumption) | refine Hb.set (by first | omega | (simp only [size_alloc, size_setB, size_drew]; omega)) ?_ ))) (Ce.h (by first | assumption | exact ⟨rfl⟩)) ?_
      refine WH_nil ?_
      refine F_q (i := 8) rfl (by kernel_rfl) ?_
      refine WH_p (PS_conv_u8n Hvac.runUnderlying68 Hvac.runUnderlying5 rfl (by omega) (by omega)) rfl ?_
      refine WH_nil ?_
      refine F_q (i := 9) rfl (by kernel_rfl) ?_
      refine WH_p (PS_move_ptr rfl) rfl ?_
      refine WH_nil ?_
      refine F_q (i := 10) rfl (by kernel_rfl) ?_
      refine WH_p (PS_nilCheck rfl) rfl ?_
      refine WH_nil ?_
      refine F_q (i := 11) rfl (by kernel_rfl) ?_
      refine WH_p (PS_fieldAddr 4 Hvac.runUnderlying66 rfl Hvac.sizeOf42 rfl rfl) rfl ?_
      refine WH_nil ?_
      refine F_q (i := 12) rfl (by kernel_rfl) ?_
      refine WH_load (.int _ _) Hvac.isAgg42 rfl (Hb.h (by repeat (first | assumption | exact Hb.newY _ _ | refine Hb.alloc ?_ | refine Hb.drew ?_ | refine Hb.ext (by assumption) ?_ | exact Hb.setSameL (by first | omega | (simp only [size_alloc, size_setB, size_drew]; omega)) | exact Hb.setSame (by assumption) | refine Hb.set (by first | omega | (simp only [size_alloc, size_setB, size_drew]; omega)) ?_ ))) (Ce.h (by first | assumption | exact ⟨rfl⟩)) ?_
      refine WH_nil ?_
      refine F_q (i := 13) rfl (by kernel_rfl) ?_
      refine WH_p (PS_move_ptr rfl) rfl ?_
      refine WH_nil ?_
      refine F_q (i := 14) rfl (by kernel_rfl) ?_
      refine WH_p (PS_nilCheck rfl) rfl ?_
      refine WH_nil ?_
      refine F_q (i := 15) rfl (by kernel_rfl) ?_
      refine WH_p (PS_fieldAddr 7 Hvac.runUnderlying66 rfl Hvac.sizeOf26 rfl rfl) rfl ?_
      refine WH_nil ?_
      refine F_q (i := 16) rfl (by kernel_rfl) ?_
      refine WH_load (.int _ _) Hvac.isAgg26 rfl (Hb.h (by repeat (first | assumption | exact Hb.newY _ _ | refine Hb.alloc ?_ | refine Hb.drew ?_ | refine Hb.ext (by assumption) ?_ | exact Hb.setSameL (by first | omega | (simp only [size_alloc, size_setB, size_drew]; omega)) | exact Hb.setSame (by assumption) | refine Hb.set (by first | omega | (simp only [size_alloc, size_setB, size_drew]; omega)) ?_ ))) (Ce.h (by first | assumption | exact ⟨rfl⟩)) ?_
      refine WH_nil ?_
      refine F_q (i := 17) rfl (by kernel_rfl) ?_
      refine WH_p (PS_move_ptr rfl) rfl ?_
      refine WH_nil ?_
      refine F_q (i := 18) rfl (by kernel_rfl) ?_
      refine WH_p (PS_nilCheck rfl) rfl ?_
      refine WH_nil ?_
      refine F_q (i := 19) rfl (by kernel_rfl) ?_
      refine WH_p (PS_fieldAddr 0 Hvac.runUnderlying70 rfl Hvac.sizeOf55 rfl rfl) rfl ?_
      refine WH_nil ?_
      refine F_q (i := 20) rfl (by kernel_rfl) ?_
      refine WH_load (.pointer _) Hvac.isAgg55 rfl (Hb.h (by repeat (first | assumption | exact Hb.newY _ _ | refine Hb.alloc ?_ | refine Hb.drew ?_ | refine Hb.ext (by assumption) ?_ | exact Hb.setSameL (by first | omega | (simp only [size_alloc, size_setB, size_drew]; omega)) | exact Hb.setSame (by assumption) | refine Hb.set (by first | omega | (simp only [size_alloc, size_setB, size_drew]; omega)) ?_ ))) (Ce.h (by first | assumption | exact ⟨rfl⟩)) ?_
      refine WH_nil ?_
      refine F_fork1 (i := 21) rfl rfl ?_ ?_
      · refine WH_call Hvac.call96 (by rfl) (Ret.mono (refund_spec C c v B m _ (MS.ext hM (by repeat (first | assumption | exact Ext.refl _ | refine Ext.alloc ?_ _ | refine Ext.drew ?_ | refine Ext.setB ?_ (by first | omega | (simp only [size_alloc, size_setB, size_drew]; omega)) _ | exact Ext.trans (by assumption) (by assumption) | refine Ext.trans ?_ (by assumption))))) ?_)
        rintro _ w96_4 ⟨hE96_4, rfl⟩
        refine ⟨fun _ => (by repeat (first | assumption | exact Ext.refl _ | refine Ext.alloc ?_ _ | refine Ext.drew ?_ | refine Ext.setB ?_ (by first | omega | (simp only [size_alloc, size_setB, size_drew]; omega)) _ | exact Ext.trans (by assumption) (by assumption) | refine Ext.trans ?_ (by assumption))), ?_⟩
        have hz96_4 := hE96_4.1
        try simp only [size_alloc, size_setB, size_drew] at hz96_4
        refine WH_nil ?_
        refine F_q (i := 22) rfl (by kernel_rfl) ?_
        refine WH_p (PS_move_ptr rfl) rfl ?_
        refine WH_nil ?_
        refine F_q (i := 23) rfl (by kernel_rfl) ?_
        refine WH_p (PS_nilCheck rfl) rfl ?_
        refine WH_nil ?_
        refine F_q (i := 24) rfl (by kernel_rfl) ?_
        refine WH_p (PS_fieldAddr 9 Hvac.runUnderlying66 rfl Hvac.sizeOf25 rfl rfl) rfl ?_
        refine WH_nil ?_
        refine F_q (i := 25) rfl (by kernel_rfl) ?_
        refine WH_loadA _ Hvac.isAgg25 Hvac.sizeOf25 rfl (Hb.h (by repeat (first | assumption | exact Hb.newY _ _ | refine Hb.alloc ?_ | refine Hb.drew ?_ | refine Hb.ext (by assumption) ?_ | exact Hb.setSameL (by first | omega | (simp only [size_alloc, size_setB, size_drew]; omega)) | exact Hb.setSame (by assumption) | refine Hb.set (by first | omega | (simp only [size_alloc, size_setB, size_drew]; omega)) ?_ ))) (by first | omega | assumption | rfl | decide | exact Nat.le_refl _ | (simp only [size_ic, Value.cells]; omega) | (simp [encWs]; done) | (simp; omega) | simp | exact encYA_sz (by assumption) | exact encYT_sz (by assumption) | exact encYM_sz (by assumption)) (Xt.h (by first | assumption | exact Xt.whole rfl rfl | exact Xt.whole rfl (by assumption) | exact Xt.whole rfl (by simp only [size_ic, Value.cells]; omega) | exact ⟨rfl⟩)) ?_
        refine WH_nil ?_
        refine F_q (i := 26) rfl (by kernel_rfl) ?_
        refine WH_p (PS_move_ptr rfl) rfl ?_
        refine WH_nil ?_
        refine F_q (i := 27) rfl (by kernel_rfl) ?_
        refine WH_p (PS_nilCheck rfl) rfl ?_
        refine WH_nil ?_
        refine F_q (i := 28) rfl (by kernel_rfl) ?_
        refine WH_p (PS_fieldAddr 29 Hvac.runUnderlying66 rfl Hvac.sizeOf25 rfl rfl) rfl ?_
        refine WH_nil ?_
        refine F_q (i := 29) rfl (by kernel_rfl) ?_
        refine WH_loadA _ Hvac.isAgg25 Hvac.sizeOf25 rfl (Hb.h (by repeat (first | assumption | exact Hb.newY _ _ | refine Hb.alloc ?_ | refine Hb.drew ?_ | refine Hb.ext (by assumption) ?_ | exact Hb.setSameL (by first | omega | (simp only [size_alloc, size_setB, size_drew]; omega)) | exact Hb.setSame (by assumption) | refine Hb.set (by first | omega | (simp only [size_alloc, size_setB, size_drew]; omega)) ?_ ))) (by first | omega | assumption | rfl | decide | exact Nat.le_refl _ | (simp only [size_ic, Value.cells]; omega) | (simp [encWs]; done) | (simp; omega) | simp | exact encYA_sz (by assumption) | exact encYT_sz (by assumption) | exact encYM_sz (by assumption)) (Xt.h (by first | assumption | exact Xt.whole rfl rfl | exact Xt.whole rfl (by assumption) | exact Xt.whole rfl (by simp only [size_ic, Value.cells]; omega) | exact ⟨rfl⟩)) ?_
        refine WH_nil ?_
        refine F_q (i := 30) rfl (by kernel_rfl) ?_
        refine WH_p (PS_move_ptr rfl) rfl ?_
        refine WH_nil ?_
        refine F_q (i := 31) rfl (by kernel_rfl) ?_
        refine WH_p (PS_nilCheck rfl) rfl ?_
        refine WH_nil ?_
        refine F_q (i := 32) rfl (by kernel_rfl) ?_
        refine WH_p (PS_fieldAddr 1 Hvac.runUnderlying70 rfl Hvac.sizeOf59 rfl rfl) rfl ?_
        refine WH_nil ?_
        refine F_q (i := 33) rfl (by kernel_rfl) ?_
        refine WH_p (PS_move_ptr rfl) rfl ?_
        refine WH_nil ?_
        refine F_q (i := 34) rfl (by kernel_rfl) ?_
        refine WH_p (PS_nilCheck rfl) rfl ?_
        refine WH_nil ?_
        refine F_q (i := 35) rfl (by kernel_rfl) ?_
        refine WH_p (PS_fieldAddr 1 Hvac.runUnderlying70 rfl Hvac.sizeOf59 rfl rfl) rfl ?_
        refine WH_nil ?_
        refine F_fork1 (i := 36) rfl rfl ?_ ?_
        · refine WH_call Hvac.call99 (by rfl) (Ret.mono (memLen_spec C c v B m t lo n _ (MS.ext hM (by repeat (first | assumption | exact Ext.refl _ | refine Ext.alloc ?_ _ | refine Ext.drew ?_ | refine Ext.setB ?_ (by first | omega | (simp only [size_alloc, size_setB, size_drew]; omega)) _ | exact Ext.trans (by assumption) (by assumption) | refine Ext.trans ?_ (by assumption)))) hT) ?_)
          rintro _ w99_5 ⟨hE99_5, rfl⟩
          refine ⟨fun _ => (by repeat (first | assumption | exact Ext.refl _ | refine Ext.alloc ?_ _ | refine Ext.drew ?_ | refine Ext.setB ?_ (by first | omega | (simp only [size_alloc, size_setB, size_drew]; omega)) _ | exact Ext.trans (by assumption) (by assumption) | refine Ext.trans ?_ (by assumption))), ?_⟩
          have hz99_5 := hE99_5.1
          try simp only [size_alloc, size_setB, size_drew] at hz99_5
          refine WH_nil ?_
          refine F_fork1 (i := 37) rfl rfl ?_ ?_
          · refine WH_call Hvac.call98 (by rfl) (Ret.mono (memAll_spec C c v B m t lo n _ (MS.ext hM (by repeat (first | assumption | exact Ext.refl _ | refine Ext.alloc ?_ _ | refine Ext.drew ?_ | refine Ext.setB ?_ (by first | omega | (simp only [size_alloc, size_setB, size_drew]; omega)) _ | exact Ext.trans (by assumption) (by assumption) | refine Ext.trans ?_ (by assumption)))) L (BufX.ext hBX (by repeat (first | assumption | exact Ext.refl _ | refine Ext.alloc ?_ _ | refine Ext.drew ?_ | refine Ext.setB ?_ (by first | omega | (simp only [size_alloc, size_setB, size_drew]; omega)) _ | exact Ext.trans (by assumption) (by assumption) | refine Ext.trans ?_ (by assumption)))) hT) ?_)
            rintro _ w98_6 ⟨hE98_6, s98, rfl, hN98⟩
            refine ⟨fun _ => (by repeat (first | assumption | exact Ext.refl _ | refine Ext.alloc ?_ _ | refine Ext.drew ?_ | refine Ext.setB ?_ (by first | omega | (simp only [size_alloc, size_setB, size_drew]; omega)) _ | exact Ext.trans (by assumption) (by assumption) | refine Ext.trans ?_ (by assumption))), ?_⟩
            have hz98_6 := hE98_6.1
            try simp only [size_alloc, size_setB, size_drew] at hz98_6
            have hMB98 := hN98.mb hmb
            refine WH_nil ?_
            refine F_q (i := 38) rfl (by kernel_rfl) ?_
            refine WH_p (PS_move_ptr rfl) rfl ?_
            refine WH_nil ?_
            refine F_q (i := 39) rfl (by kernel_rfl) ?_
            refine WH_p (PS_nilCheck rfl) rfl ?_
            refine WH_nil ?_
            refine F_q (i := 40) rfl (by kernel_rfl) ?_
            refine WH_p (PS_fieldAddr 2259 Hvac.runUnderlying70 rfl Hvac.sizeOf32 rfl rfl) rfl ?_
            refine WH_nil ?_
            refine F_q (i := 41) rfl (by kernel_rfl) ?_
            refine WH_load (.slice _ _ _) Hvac.isAgg32 rfl (Hb.h (by repeat (first | assumption | exact Hb.newY _ _ | refine Hb.alloc ?_ | refine Hb.drew ?_ | refine Hb.ext (by assumption) ?_ | exact Hb.setSameL (by first | omega | (simp only [size_alloc, size_setB, size_drew]; omega)) | exact Hb.setSame (by assumption) | refine Hb.set (by first | omega | (simp only [size_alloc, size_setB, size_drew]; omega)) ?_ ))) (Ce.h (by first | assumption | exact ⟨rfl⟩)) ?_
            refine WH_nil ?_
            refine F_fork1 (i := 42) rfl rfl ?_ ?_
            · refine WH_call Hvac.call97 (by rfl) (Ret.mono (copiedM_spec m.ret (rdB w m.ret) _ (BX.sc (BX.ext hM.ret.rd (by repeat (first | assumption | exact Ext.refl _ | refine Ext.alloc ?_ _ | refine Ext.drew ?_ | refine Ext.setB ?_ (by first | omega | (simp only [size_alloc, size_setB, size_drew]; omega)) _ | exact Ext.trans (by assumption) (by assumption) | refine Ext.trans ?_ (by assumption))))) hrt) ?_)
              rintro _ w97_7 ⟨hE97_7, s97, rfl, hN97⟩
              refine ⟨fun _ => (by repeat (first | assumption | exact Ext.refl _ | refine Ext.alloc ?_ _ | refine Ext.drew ?_ | refine Ext.setB ?_ (by first | omega | (simp only [size_alloc, size_setB, size_drew]; omega)) _ | exact Ext.trans (by assumption) (by assumption) | refine Ext.trans ?_ (by assumption))), ?_⟩
              have hz97_7 := hE97_7.1
              try simp only [size_alloc, size_setB, size_drew] at hz97_7
              have hMB97 := hN97.mb hrb
              refine WH_nil ?_
              refine F_q (i := 43) rfl (by kernel_rfl) ?_
              refine WH_p (PS_move_ptr rfl) rfl ?_
              refine WH_nil ?_
              refine F_q (i := 44) rfl (by kernel_rfl) ?_
              refine WH_p (PS_nilCheck rfl) rfl ?_
              refine WH_nil ?_
              refine F_q (i := 45) rfl (by kernel_rfl) ?_
              refine WH_p (PS_fieldAddr 0 Hvac.runUnderlying70 rfl Hvac.sizeOf55 rfl rfl) rfl ?_
              refine WH_nil ?_
              refine F_q (i := 46) rfl (by kernel_rfl) ?_
              refine WH_load (.pointer _) Hvac.isAgg55 rfl (Hb.h (by repeat (first | assumption | exact Hb.newY _ _ | refine Hb.alloc ?_ | refine Hb.drew ?_ | refine Hb.ext (by assumption) ?_ | exact Hb.setSameL (by first | omega | (simp only [size_alloc, size_setB, size_drew]; omega)) | exact Hb.setSame (by assumption) | refine Hb.set (by first | omega | (simp only [size_alloc, size_setB, size_drew]; omega)) ?_ ))) (Ce.h (by first | assumption | exact ⟨rfl⟩)) ?_
              refine WH_nil ?_
              refine F_q (i := 47) rfl (by kernel_rfl) ?_
              refine WH_p (PS_nilCheck rfl) rfl ?_
              refine WH_nil ?_
              refine F_q (i := 48) rfl (by kernel_rfl) ?_
              refine WH_p (PS_fieldAddr 24581 Hvac.runUnderlying80 rfl Hvac.sizeOf76 rfl rfl) rfl ?_
              refine WH_nil ?_
              refine F_q (i := 49) rfl (by kernel_rfl) ?_
              refine WH_load (.slice _ _ _) Hvac.isAgg76 rfl (Hb.h (by repeat (first | assumption | exact Hb.newY _ _ | refine Hb.alloc ?_ | refine Hb.drew ?_ | refine Hb.ext (by assumption) ?_ | exact Hb.setSameL (by first | omega | (simp only [size_alloc, size_setB, size_drew]; omega)) | exact Hb.setSame (by assumption) | refine Hb.set (by first | omega | (simp only [size_alloc, size_setB, size_drew]; omega)) ?_ ))) (Ce.h (by first | assumption | exact ⟨rfl⟩)) ?_
              refine WH_nil ?_
              refine F_q (i := 50) rfl (by kernel_rfl) ?_
              refine WH_p (PS_lenS Hvac.runUnderlying76 rfl) rfl ?_
              refine WH_nil ?_
              refine F_q (i := 51) rfl (by kernel_rfl) ?_
              refine WH_p (PS_and16 rfl rfl (by omega) (by omega)) rfl ?_
              refine WH_nil ?_
              refine F_q (i := 52) rfl (by kernel_rfl) ?_
              refine WH_p (PS_conv_u16n Hvac.runUnderlying3 Hvac.runUnderlying42 rfl (by omega) (by omega)) rfl ?_
              refine WH_nil ?_
              refine F_q (i := 53) rfl (by kernel_rfl) ?_
              refine WH_p (PS_b44_r rfl rfl rfl rfl rfl rfl hsfl rfl hcal rfl rfl rfl) rfl ?_
              rw [show ((s98.1, s98.2.1, s98.2.2) : SV) = s98 from rfl, show ((s97.1, s97.2.1, s97.2.2) : SV) = s97 from rfl]
              have hszv : (encVw ⟨false, f.static, (t : Int), f.pc, f.gas, v.ref, f.self, f.caller, (none, 0, 0), s98, s97, (v.logs.length : Int)⟩).toArray.size = 50 := encVw_sz hsfl hcal
              have honev := one_Vw ⟨false, f.static, (t : Int), f.pc, f.gas, v.ref, f.self, f.caller, (none, 0, 0), s98, s97, (v.logs.length : Int)⟩
              refine WH_nil ?_
              refine F_fork1B (i := 55) (by kernel_rfl) rfl ?_
              · refine WH_allocG Hvac.zeroValue44 ?_
                intro b5 v5 hg5 hE5 hH5 hl5
                try simp only [size_alloc, size_setB, size_drew] at hg5
                have hzz5 := hE5.1
                try simp only [size_alloc, size_setB, size_drew] at hzz5
                replace hH5 : Hb v5 b5 (.cells ((encVw vw0).toArray) 44 (0, 0)) := hH5
                refine ⟨fun _ => (by repeat (first | assumption | exact Ext.refl _ | refine Ext.alloc ?_ _ | refine Ext.drew ?_ | refine Ext.setB ?_ (by first | omega | (simp only [size_alloc, size_setB, size_drew]; omega)) _ | exact Ext.trans (by assumption) (by assumption) | refine Ext.trans ?_ (by assumption))), ?_⟩
                refine WH_nil ?_
                refine F_q (i := 55) rfl (by kernel_rfl) ?_
                first | refine WH_storeW Hvac.sizeOf44 rfl (v := .agg _) rfl (Hb.h (by repeat (first | assumption | exact Hb.newY _ _ | refine Hb.alloc ?_ | refine Hb.drew ?_ | refine Hb.ext (by assumption) ?_ | exact Hb.setSameL (by first | omega | (simp only [size_alloc, size_setB, size_drew]; omega)) | exact Hb.setSame (by assumption) | refine Hb.set (by first | omega | (simp only [size_alloc, size_setB, size_drew]; omega)) ?_ ))) rfl (by first | omega | assumption | rfl | decide | exact Nat.le_refl _ | (simp only [size_ic, Value.cells]; omega) | (simp [encWs]; done) | (simp; omega) | simp | exact encYA_sz (by assumption) | exact encYT_sz (by assumption) | exact encYM_sz (by assumption)) (by first | omega | assumption | rfl | decide | exact Nat.le_refl _ | (simp only [size_ic, Value.cells]; omega) | (simp [encWs]; done) | (simp; omega) | simp | exact encYA_sz (by assumption) | exact encYT_sz (by assumption) | exact encYM_sz (by assumption)) (by first | exact oneCell_ic | assumption | exact one_Ws2 _ | exact one_YA2 _ | exact one_YSl2 _ | exact one_YM2 _ | exact one_YT2 _ | exact one_L2 _) (fun h => by cases h) ?_ | refine WH_store Hvac.sizeOf44 rfl (v := .agg _) rfl (Hb.h (by repeat (first | assumption | exact Hb.newY _ _ | refine Hb.alloc ?_ | refine Hb.drew ?_ | refine Hb.ext (by assumption) ?_ | exact Hb.setSameL (by first | omega | (simp only [size_alloc, size_setB, size_drew]; omega)) | exact Hb.setSame (by assumption) | refine Hb.set (by first | omega | (simp only [size_alloc, size_setB, size_drew]; omega)) ?_ ))) (by first | omega | assumption | rfl | decide | exact Nat.le_refl _ | (simp only [size_ic, Value.cells]; omega) | (simp [encWs]; done) | (simp; omega) | simp | exact encYA_sz (by assumption) | exact encYT_sz (by assumption) | exact encYM_sz (by assumption)) (by first | omega | assumption | rfl | decide | exact Nat.le_refl _ | (simp only [size_ic, Value.cells]; omega) | (simp [encWs]; done) | (simp; omega) | simp | exact encYA_sz (by assumption) | exact encYT_sz (by assumption) | exact encYM_sz (by assumption)) (by first | exact oneCell_ic | assumption | exact one_Ws2 _ | exact one_YA2 _ | exact one_YSl2 _ | exact one_YM2 _ | exact one_YT2 _ | exact one_L2 _) (fun h => by cases h) ?_
                refine WH_nil ?_
                refine F_end ?_
                refine thn_normal ?_
                exact ⟨b5, s98, s97, ⟨rfl, rfl, rfl, rfl, trivial⟩, (by repeat (first | assumption | exact Ext.refl _ | refine Ext.alloc ?_ _ | refine Ext.drew ?_ | refine Ext.setB ?_ (by first | omega | (simp only [size_alloc, size_setB, size_drew]; omega)) _ | exact Ext.trans (by assumption) (by assumption) | refine Ext.trans ?_ (by assumption))), by omega, by omega, Hb.mk (Hb.h (by repeat (first | assumption | exact Hb.newY _ _ | refine Hb.alloc ?_ | refine Hb.drew ?_ | refine Hb.ext (by assumption) ?_ | exact Hb.setSameL (by first | omega | (simp only [size_alloc, size_setB, size_drew]; omega)) | exact Hb.setSame (by assumption) | refine Hb.set (by first | omega | (simp only [size_alloc, size_setB, size_drew]; omega)) ?_ ))), Hb.mk (Hb.h (by repeat (first | assumption | exact Hb.newY _ _ | refine Hb.alloc ?_ | refine Hb.drew ?_ | refine Hb.ext (by assumption) ?_ | exact Hb.setSameL (by first | omega | (simp only [size_alloc, size_setB, size_drew]; omega)) | exact Hb.setSame (by assumption) | refine Hb.set (by first | omega | (simp only [size_alloc, size_setB, size_drew]; omega)) ?_ ))), (by first | (refine MB.ext hMB98 ?_; (repeat (first | assumption | exact Ext.refl _ | refine Ext.alloc ?_ _ | refine Ext.drew ?_ | refine Ext.setB ?_ (by first | omega | (simp only [size_alloc, size_setB, size_drew]; omega)) _ | refine Ext.trans ?_ (by assumption))); done) | exact MB.b44 hMB98 (Hb.mk (Hb.h (by repeat (first | assumption | exact Hb.newY _ _ | refine Hb.alloc ?_ | refine Hb.drew ?_ | refine Hb.ext (by assumption) ?_ | exact Hb.setSameL (by first | omega | (simp only [size_alloc, size_setB, size_drew]; omega)) | exact Hb.setSame (by assumption) | refine Hb.set (by first | omega | (simp only [size_alloc, size_setB, size_drew]; omega)) ?_ )))) | exact MB.b44 (MB.ext hMB98 (by repeat (first | assumption | exact Ext.refl _ | refine Ext.alloc ?_ _ | refine Ext.drew ?_ | refine Ext.setB ?_ (by first | omega | (simp only [size_alloc, size_setB, size_drew]; omega)) _ | exact Ext.trans (by assumption) (by assumption) | refine Ext.trans ?_ (by assumption)))) (Hb.mk (Hb.h (by repeat (first | assumption | exact Hb.newY _ _ | refine Hb.alloc ?_ | refine Hb.drew ?_ | refine Hb.ext (by assumption) ?_ | exact Hb.setSameL (by first | omega | (simp only [size_alloc, size_setB, size_drew]; omega)) | exact Hb.setSame (by assumption) | refine Hb.set (by first | omega | (simp only [size_alloc, size_setB, size_drew]; omega)) ?_ ))))), (by first | (refine MB.ext hMB97 ?_; (repeat (first | assumption | exact Ext.refl _ | refine Ext.alloc ?_ _ | refine Ext.drew ?_ | refine Ext.setB ?_ (by first | omega | (simp only [size_alloc, size_setB, size_drew]; omega)) _ | refine Ext.trans ?_ (by assumption))); done) | exact MB.b44 hMB97 (Hb.mk (Hb.h (by repeat (first | assumption | exact Hb.newY _ _ | refine Hb.alloc ?_ | refine Hb.drew ?_ | refine Hb.ext (by assumption) ?_ | exact Hb.setSameL (by first | omega | (simp only [size_alloc, size_setB, size_drew]; omega)) | exact Hb.setSame (by assumption) | refine Hb.set (by first | omega | (simp only [size_alloc, size_setB, size_drew]; omega)) ?_ )))) | exact MB.b44 (MB.ext hMB97 (by repeat (first | assumption | exact Ext.refl _ | refine Ext.alloc ?_ _ | refine Ext.drew ?_ | refine Ext.setB ?_ (by first | omega | (simp only [size_alloc, size_setB, size_drew]; omega)) _ | exact Ext.trans (by assumption) (by assumption) | refine Ext.trans ?_ (by assumption)))) (Hb.mk (Hb.h (by repeat (first | assumption | exact Hb.newY _ _ | refine Hb.alloc ?_ | refine Hb.drew ?_ | refine Hb.ext (by assumption) ?_ | exact Hb.setSameL (by first | omega | (simp only [size_alloc, size_setB, size_drew]; omega)) | exact Hb.setSame (by assumption) | refine Hb.set (by first | omega | (simp only [size_alloc, size_setB, size_drew]; omega)) ?_ )))))⟩
            · refine WH_allocG Hvac.zeroValue44 ?_
              intro b5 v5 hg5 hE5 hH5 hl5
              try simp only [size_alloc, size_setB, size_drew] at hg5
              have hzz5 := hE5.1
              try simp only [size_alloc, size_setB, size_drew] at hzz5
              replace hH5 : Hb v5 b5 (.cells ((encVw vw0).toArray) 44 (0, 0)) := hH5
              refine ⟨fun _ => (by repeat (first | assumption | exact Ext.refl _ | refine Ext.alloc ?_ _ | refine Ext.drew ?_ | refine Ext.setB ?_ (by first | omega | (simp only [size_alloc, size_setB, size_drew]; omega)) _ | exact Ext.trans (by assumption) (by assumption) | refine Ext.trans ?_ (by assumption))), ?_⟩
              refine WH_nil ?_
              refine F_q (i := 42) rfl (by kernel_rfl) ?_
              refine WH_call Hvac.call97 (by rfl) (Ret.mono (copiedM_spec m.ret (rdB w m.ret) _ (BX.sc (BX.ext hM.ret.rd (by repeat (first | assumption | exact Ext.refl _ | refine Ext.alloc ?_ _ | refine Ext.drew ?_ | refine Ext.setB ?_ (by first | omega | (simp only [size_alloc, size_setB, size_drew]; omega)) _ | exact Ext.trans (by assumption) (by assumption) | refine Ext.trans ?_ (by assumption))))) hrt) ?_)
              rintro _ w97_8 ⟨hE97_8, s97, rfl, hN97⟩
              refine ⟨fun _ => (by repeat (first | assumption | exact Ext.refl _ | refine Ext.alloc ?_ _ | refine Ext.drew ?_ | refine Ext.setB ?_ (by first | omega | (simp only [size_alloc, size_setB, size_drew]; omega)) _ | exact Ext.trans (by assumption) (by assumption) | refine Ext.trans ?_ (by assumption))), ?_⟩
              have hz97_8 := hE97_8.1
              try simp only [size_alloc, size_setB, size_drew] at hz97_8
              have hMB97 := hN97.mb hrb
              refine WH_nil ?_
              refine F_q (i := 43) rfl (by kernel_rfl) ?_
              refine WH_p (PS_move_ptr rfl) rfl ?_
              refine WH_nil ?_
              refine F_q (i := 44) rfl (by kernel_rfl) ?_
              refine WH_p (PS_nilCheck rfl) rfl ?_
              refine WH_nil ?_
              refine F_q (i := 45) rfl (by kernel_rfl) ?_
              refine WH_p (PS_fieldAddr 0 Hvac.runUnderlying70 rfl Hvac.sizeOf55 rfl rfl) rfl ?_
              refine WH_nil ?_
              refine F_q (i := 46) rfl (by kernel_rfl) ?_
              refine WH_load (.pointer _) Hvac.isAgg55 rfl (Hb.h (by repeat (first | assumption | exact Hb.newY _ _ | refine Hb.alloc ?_ | refine Hb.drew ?_ | refine Hb.ext (by assumption) ?_ | exact Hb.setSameL (by first | omega | (simp only [size_alloc, size_setB, size_drew]; omega)) | exact Hb.setSame (by assumption) | refine Hb.set (by first | omega | (simp only [size_alloc, size_setB, size_drew]; omega)) ?_ ))) (Ce.h (by first | assumption | exact ⟨rfl⟩)) ?_
              refine WH_nil ?_
              refine F_q (i := 47) rfl (by kernel_rfl) ?_
              refine WH_p (PS_nilCheck rfl) rfl ?_
              refine WH_nil ?_
              refine F_q (i := 48) rfl (by kernel_rfl) ?_
              refine WH_p (PS_fieldAddr 24581 Hvac.runUnderlying80 rfl Hvac.sizeOf76 rfl rfl) rfl ?_
              refine WH_nil ?_
              refine F_q (i := 49) rfl (by kernel_rfl) ?_
              refine WH_load (.slice _ _ _) Hvac.isAgg76 rfl (Hb.h (by repeat (first | assumption | exact Hb.newY _ _ | refine Hb.alloc ?_ | refine Hb.drew ?_ | refine Hb.ext (by assumption) ?_ | exact Hb.setSameL (by first | omega | (simp only [size_alloc, size_setB, size_drew]; omega)) | exact Hb.setSame (by assumption) | refine Hb.set (by first | omega | (simp only [size_alloc, size_setB, size_drew]; omega)) ?_ ))) (Ce.h (by first | assumption | exact ⟨rfl⟩)) ?_
              refine WH_nil ?_
              refine F_q (i := 50) rfl (by kernel_rfl) ?_
              refine WH_p (PS_lenS Hvac.runUnderlying76 rfl) rfl ?_
              refine WH_nil ?_
              refine F_q (i := 51) rfl (by kernel_rfl) ?_
              refine WH_p (PS_and16 rfl rfl (by omega) (by omega)) rfl ?_
              refine WH_nil ?_
              refine F_q (i := 52) rfl (by kernel_rfl) ?_
              refine WH_p (PS_conv_u16n Hvac.runUnderlying3 Hvac.runUnderlying42 rfl (by omega) (by omega)) rfl ?_
              refine WH_nil ?_
              refine F_q (i := 53) rfl (by kernel_rfl) ?_
              refine WH_p (PS_b44_r rfl rfl rfl rfl rfl rfl hsfl rfl hcal rfl rfl rfl) rfl ?_
              rw [show ((s98.1, s98.2.1, s98.2.2) : SV) = s98 from rfl, show ((s97.1, s97.2.1, s97.2.2) : SV) = s97 from rfl]
              have hszv : (encVw ⟨false, f.static, (t : Int), f.pc, f.gas, v.ref, f.self, f.caller, (none, 0, 0), s98, s97, (v.logs.length : Int)⟩).toArray.size = 50 := encVw_sz hsfl hcal
              have honev := one_Vw ⟨false, f.static, (t : Int), f.pc, f.gas, v.ref, f.self, f.caller, (none, 0, 0), s98, s97, (v.logs.length : Int)⟩
              refine WH_nil ?_
              refine F_q (i := 55) rfl (by kernel_rfl) ?_
              first | refine WH_storeW Hvac.sizeOf44 rfl (v := .agg _) rfl (Hb.h (by repeat (first | assumption | exact Hb.newY _ _ | refine Hb.alloc ?_ | refine Hb.drew ?_ | refine Hb.ext (by assumption) ?_ | exact Hb.setSameL (by first | omega | (simp only [size_alloc, size_setB, size_drew]; omega)) | exact Hb.setSame (by assumption) | refine Hb.set (by first | omega | (simp only [size_alloc, size_setB, size_drew]; omega)) ?_ ))) rfl (by first | omega | assumption | rfl | decide | exact Nat.le_refl _ | (simp only [size_ic, Value.cells]; omega) | (simp [encWs]; done) | (simp; omega) | simp | exact encYA_sz (by assumption) | exact encYT_sz (by assumption) | exact encYM_sz (by assumption)) (by first | omega | assumption | rfl | decide | exact Nat.le_refl _ | (simp only [size_ic, Value.cells]; omega) | (simp [encWs]; done) | (simp; omega) | simp | exact encYA_sz (by assumption) | exact encYT_sz (by assumption) | exact encYM_sz (by assumption)) (by first | exact oneCell_ic | assumption | exact one_Ws2 _ | exact one_YA2 _ | exact one_YSl2 _ | exact one_YM2 _ | exact one_YT2 _ | exact one_L2 _) (fun h => by cases h) ?_ | refine WH_store Hvac.sizeOf44 rfl (v := .agg _) rfl (Hb.h (by repeat (first | assumption | exact Hb.newY _ _ | refine Hb.alloc ?_ | refine Hb.drew ?_ | refine Hb.ext (by assumption) ?_ | exact Hb.setSameL (by first | omega | (simp only [size_alloc, size_setB, size_drew]; omega)) | exact Hb.setSame (by assumption) | refine Hb.set (by first | omega | (simp only [size_alloc, size_setB, size_drew]; omega)) ?_ ))) (by first | omega | assumption | rfl | decide | exact Nat.le_refl _ | (simp only [size_ic, Value.cells]; omega) | (simp [encWs]; done) | (simp; omega) | simp | exact encYA_sz (by assumption) | exact encYT_sz (by assumption) | exact encYM_sz (by assumption)) (by first | omega | assumption | rfl | decide | exact Nat.le_refl _ | (simp only [size_ic, Value.cells]; omega) | (simp [encWs]; done) | (simp; omega) | simp | exact encYA_sz (by assumption) | exact encYT_sz (by assumption) | exact encYM_sz (by assumption)) (by first | exact oneCell_ic | assumption | exact one_Ws2 _ | exact one_YA2 _ | exact one_YSl2 _ | exact one_YM2 _ | exact one_YT2 _ | exact one_L2 _) (fun h => by cases h) ?_
              refine WH_nil ?_
              refine F_end ?_
              refine thn_normal ?_
              exact ⟨b5, s98, s97, ⟨rfl, rfl, rfl, rfl, trivial⟩, (by repeat (first | assumption | exact Ext.refl _ | refine Ext.alloc ?_ _ | refine Ext.drew ?_ | refine Ext.setB ?_ (by first | omega | (simp only [size_alloc, size_setB, size_drew]; omega)) _ | exact Ext.trans (by assumption) (by assumption) | refine Ext.trans ?_ (by assumption))), by omega, by omega, Hb.mk (Hb.h (by repeat (first | assumption | exact Hb.newY _ _ | refine Hb.alloc ?_ | refine Hb.drew ?_ | refine Hb.ext (by assumption) ?_ | exact Hb.setSameL (by first | omega | (simp only [size_alloc, size_setB, size_drew]; omega)) | exact Hb.setSame (by assumption) | refine Hb.set (by first | omega | (simp only [size_alloc, size_setB, size_drew]; omega)) ?_ ))), Hb.mk (Hb.h (by repeat (first | assumption | exact Hb.newY _ _ | refine Hb.alloc ?_ | refine Hb.drew ?_ | refine Hb.ext (by assumption) ?_ | exact Hb.setSameL (by first | omega | (simp only [size_alloc, size_setB, size_drew]; omega)) | exact Hb.setSame (by assumption) | refine Hb.set (by first | omega | (simp only [size_alloc, size_setB, size_drew]; omega)) ?_ ))), (by first | (refine MB.ext hMB98 ?_; (repeat (first | assumption | exact Ext.refl _ | refine Ext.alloc ?_ _ | refine Ext.drew ?_ | refine Ext.setB ?_ (by first | omega | (simp only [size_alloc, size_setB, size_drew]; omega)) _ | refine Ext.trans ?_ (by assumption))); done) | exact MB.b44 hMB98 (Hb.mk (Hb.h (by repeat (first | assumption | exact Hb.newY _ _ | refine Hb.alloc ?_ | refine Hb.drew ?_ | refine Hb.ext (by assumption) ?_ | exact Hb.setSameL (by first | omega | (simp only [size_alloc, size_setB, size_drew]; omega)) | exact Hb.setSame (by assumption) | refine Hb.set (by first | omega | (simp only [size_alloc, size_setB, size_drew]; omega)) ?_ )))) | exact MB.b44 (MB.ext hMB98 (by repeat (first | assumption | exact Ext.refl _ | refine Ext.alloc ?_ _ | refine Ext.drew ?_ | refine Ext.setB ?_ (by first | omega | (simp only [size_alloc, size_setB, size_drew]; omega)) _ | exact Ext.trans (by assumption) (by assumption) | refine Ext.trans ?_ (by assumption)))) (Hb.mk (Hb.h (by repeat (first | assumption | exact Hb.newY _ _ | refine Hb.alloc ?_ | refine Hb.drew ?_ | refine Hb.ext (by assumption) ?_ | exact Hb.setSameL (by first | omega | (simp only [size_alloc, size_setB, size_drew]; omega)) | exact Hb.setSame (by assumption) | refine Hb.set (by first | omega | (simp only [size_alloc, size_setB, size_drew]; omega)) ?_ ))))), (by first | (refine MB.ext hMB97 ?_; (repeat (first | assumption | exact Ext.refl _ | refine Ext.alloc ?_ _ | refine Ext.drew ?_ | refine Ext.setB ?_ (by first | omega | (simp only [size_alloc, size_setB, size_drew]; omega)) _ | refine Ext.trans ?_ (by assumption))); done) | exact MB.b44 hMB97 (Hb.mk (Hb.h (by repeat (first | assumption | exact Hb.newY _ _ | refine Hb.alloc ?_ | refine Hb.drew ?_ | refine Hb.ext (by assumption) ?_ | exact Hb.setSameL (by first | omega | (simp only [size_alloc, size_setB, size_drew]; omega)) | exact Hb.setSame (by assumption) | refine Hb.set (by first | omega | (simp only [size_alloc, size_setB, size_drew]; omega)) ?_ )))) | exact MB.b44 (MB.ext hMB97 (by repeat (first | assumption | exact Ext.refl _ | refine Ext.alloc ?_ _ | refine Ext.drew ?_ | refine Ext.setB ?_ (by first | omega | (simp only [size_alloc, size_setB, size_drew]; omega)) _ | exact Ext.trans (by assumption) (by assumption) | refine Ext.trans ?_ (by assumption)))) (Hb.mk (Hb.h (by repeat (first | assumption | exact Hb.newY _ _ | refine Hb.alloc ?_ | refine Hb.drew ?_ | refine Hb.ext (by assumption) ?_ | exact Hb.setSameL (by first | omega | (simp only [size_alloc, size_setB, size_drew]; omega)) | exact Hb.setSame (by assumption) | refine Hb.set (by first | omega | (simp only [size_alloc, size_setB, size_drew]; omega)) ?_ )))))⟩
          · refine WH_allocG Hvac.zeroValue44 ?_
            intro b5 v5 hg5 hE5 hH5 hl5
            try simp only [size_alloc, size_setB, size_drew] at hg5
            have hzz5 := hE5.1
            try simp only [size_alloc, size_setB, size_drew] at hzz5
            replace hH5 : Hb v5 b5 (.cells ((encVw vw0).toArray) 44 (0, 0)) := hH5
            refine ⟨fun _ => (by repeat (first | assumption | exact Ext.refl _ | refine Ext.alloc ?_ _ | refine Ext.drew ?_ | refine Ext.setB ?_ (by first | omega | (simp only [size_alloc, size_setB, size_drew]; omega)) _ | exact Ext.trans (by assumption) (by assumption) | refine Ext.trans ?_ (by assumption))), ?_⟩
            refine WH_nil ?_
            refine F_q (i := 37) rfl (by kernel_rfl) ?_
            refine WH_call Hvac.call98 (by rfl) (Ret.mono (memAll_spec C c v B m t lo n _ (MS.ext hM (by repeat (first | assumption | exact Ext.refl _ | refine Ext.alloc ?_ _ | refine Ext.drew ?_ | refine Ext.setB ?_ (by first | omega | (simp only [size_alloc, size_setB, size_drew]; omega)) _ | exact Ext.trans (by assumption) (by assumption) | refine Ext.trans ?_ (by assumption)))) L (BufX.ext hBX (by repeat (first | assumption | exact Ext.refl _ | refine Ext.alloc ?_ _ | refine Ext.drew ?_ | refine Ext.setB ?_ (by first | omega | (simp only [size_alloc, size_setB, size_drew]; omega)) _ | exact Ext.trans (by assumption) (by assumption) | refine Ext.trans ?_ (by assumption)))) hT) ?_)
            rintro _ w98_9 ⟨hE98_9, s98, rfl, hN98⟩
            refine ⟨fun _ => (by repeat (first | assumption | exact Ext.refl _ | refine Ext.alloc ?_ _ | refine Ext.drew ?_ | refine Ext.setB ?_ (by first | omega | (simp only [size_alloc, size_setB, size_drew]; omega)) _ | exact Ext.trans (by assumption) (by assumption) | refine Ext.trans ?_ (by assumption))), ?_⟩
            have hz98_9 := hE98_9.1
            try simp only [size_alloc, size_setB, size_drew] at hz98_9
            have hMB98 := hN98.mb hmb
            refine WH_nil ?_
            refine F_q (i := 38) rfl (by kernel_rfl) ?_
            refine WH_p (PS_move_ptr rfl) rfl ?_
            refine WH_nil ?_
            refine F_q (i := 39) rfl (by kernel_rfl) ?_
            refine WH_p (PS_nilCheck rfl) rfl ?_
            refine WH_nil ?_
            refine F_q (i := 40) rfl (by kernel_rfl) ?_
            refine WH_p (PS_fieldAddr 2259 Hvac.runUnderlying70 rfl Hvac.sizeOf32 rfl rfl) rfl ?_
            refine WH_nil ?_
            refine F_q (i := 41) rfl (by kernel_rfl) ?_
            refine WH_load (.slice _ _ _) Hvac.isAgg32 rfl (Hb.h (by repeat (first | assumption | exact Hb.newY _ _ | refine Hb.alloc ?_ | refine Hb.drew ?_ | refine Hb.ext (by assumption) ?_ | exact Hb.setSameL (by first | omega | (simp only [size_alloc, size_setB, size_drew]; omega)) | exact Hb.setSame (by assumption) | refine Hb.set (by first | omega | (simp only [size_alloc, size_setB, size_drew]; omega)) ?_ ))) (Ce.h (by first | assumption | exact ⟨rfl⟩)) ?_
            refine WH_nil ?_
            refine F_q (i := 42) rfl (by kernel_rfl) ?_
            refine WH_call Hvac.call97 (by rfl) (Ret.mono (copiedM_spec m.ret (rdB w m.ret) _ (BX.sc (BX.ext hM.ret.rd (by repeat (first | assumption | exact Ext.refl _ | refine Ext.alloc ?_ _ | refine Ext.drew ?_ | refine Ext.setB ?_ (by first | omega | (simp only [size_alloc, size_setB, size_drew]; omega)) _ | exact Ext.trans (by assumption) (by assumption) | refine Ext.trans ?_ (by assumption))))) hrt) ?_)
            rintro _ w97_10 ⟨hE97_10, s97, rfl, hN97⟩
            refine ⟨fun _ => (by repeat (first | assumption | exact Ext.refl _ | refine Ext.alloc ?_ _ | refine Ext.drew ?_ | refine Ext.setB ?_ (by first | omega | (simp only [size_alloc, size_setB, size_drew]; omega)) _ | exact Ext.trans (by assumption) (by assumption) | refine Ext.trans ?_ (by assumption))), ?_⟩
            have hz97_10 := hE97_10.1
            try simp only [size_alloc, size_setB, size_drew] at hz97_10
            have hMB97 := hN97.mb hrb
            refine WH_nil ?_
            refine F_q (i := 43) rfl (by kernel_rfl) ?_
            refine WH_p (PS_move_ptr rfl) rfl ?_
            refine WH_nil ?_
            refine F_q (i := 44) rfl (by kernel_rfl) ?_
            refine WH_p (PS_nilCheck rfl) rfl ?_
            refine WH_nil ?_
            refine F_q (i := 45) rfl (by kernel_rfl) ?_
            refine WH_p (PS_fieldAddr 0 Hvac.runUnderlying70 rfl Hvac.sizeOf55 rfl rfl) rfl ?_
            refine WH_nil ?_
            refine F_q (i := 46) rfl (by kernel_rfl) ?_
            refine WH_load (.pointer _) Hvac.isAgg55 rfl (Hb.h (by repeat (first | assumption | exact Hb.newY _ _ | refine Hb.alloc ?_ | refine Hb.drew ?_ | refine Hb.ext (by assumption) ?_ | exact Hb.setSameL (by first | omega | (simp only [size_alloc, size_setB, size_drew]; omega)) | exact Hb.setSame (by assumption) | refine Hb.set (by first | omega | (simp only [size_alloc, size_setB, size_drew]; omega)) ?_ ))) (Ce.h (by first | assumption | exact ⟨rfl⟩)) ?_
            refine WH_nil ?_
            refine F_q (i := 47) rfl (by kernel_rfl) ?_
            refine WH_p (PS_nilCheck rfl) rfl ?_
            refine WH_nil ?_
            refine F_q (i := 48) rfl (by kernel_rfl) ?_
            refine WH_p (PS_fieldAddr 24581 Hvac.runUnderlying80 rfl Hvac.sizeOf76 rfl rfl) rfl ?_
            refine WH_nil ?_
            refine F_q (i := 49) rfl (by kernel_rfl) ?_
            refine WH_load (.slice _ _ _) Hvac.isAgg76 rfl (Hb.h (by repeat (first | assumption | exact Hb.newY _ _ | refine Hb.alloc ?_ | refine Hb.drew ?_ | refine Hb.ext (by assumption) ?_ | exact Hb.setSameL (by first | omega | (simp only [size_alloc, size_setB, size_drew]; omega)) | exact Hb.setSame (by assumption) | refine Hb.set (by first | omega | (simp only [size_alloc, size_setB, size_drew]; omega)) ?_ ))) (Ce.h (by first | assumption | exact ⟨rfl⟩)) ?_
            refine WH_nil ?_
            refine F_q (i := 50) rfl (by kernel_rfl) ?_
            refine WH_p (PS_lenS Hvac.runUnderlying76 rfl) rfl ?_
            refine WH_nil ?_
            refine F_q (i := 51) rfl (by kernel_rfl) ?_
            refine WH_p (PS_and16 rfl rfl (by omega) (by omega)) rfl ?_
            refine WH_nil ?_
            refine F_q (i := 52) rfl (by kernel_rfl) ?_
            refine WH_p (PS_conv_u16n Hvac.runUnderlying3 Hvac.runUnderlying42 rfl (by omega) (by omega)) rfl ?_
            refine WH_nil ?_
            refine F_q (i := 53) rfl (by kernel_rfl) ?_
            refine WH_p (PS_b44_r rfl rfl rfl rfl rfl rfl hsfl rfl hcal rfl rfl rfl) rfl ?_
            rw [show ((s98.1, s98.2.1, s98.2.2) : SV) = s98 from rfl, show ((s97.1, s97.2.1, s97.2.2) : SV) = s97 from rfl]
            have hszv : (encVw ⟨false, f.static, (t : Int), f.pc, f.gas, v.ref, f.self, f.caller, (none, 0, 0), s98, s97, (v.logs.length : Int)⟩).toArray.size = 50 := encVw_sz hsfl hcal
            have honev := one_Vw ⟨false, f.static, (t : Int), f.pc, f.gas, v.ref, f.self, f.caller, (none, 0, 0), s98, s97, (v.logs.length : Int)⟩
            refine WH_nil ?_
            refine F_q (i := 55) rfl (by kernel_rfl) ?_
            first | refine WH_storeW Hvac.sizeOf44 rfl (v := .agg _) rfl (Hb.h (by repeat (first | assumption | exact Hb.newY _ _ | refine Hb.alloc ?_ | refine Hb.drew ?_ | refine Hb.ext (by assumption) ?_ | exact Hb.setSameL (by first | omega | (simp only [size_alloc, size_setB, size_drew]; omega)) | exact Hb.setSame (by assumption) | refine Hb.set (by first | omega | (simp only [size_alloc, size_setB, size_drew]; omega)) ?_ ))) rfl (by first | omega | assumption | rfl | decide | exact Nat.le_refl _ | (simp only [size_ic, Value.cells]; omega) | (simp [encWs]; done) | (simp; omega) | simp | exact encYA_sz (by assumption) | exact encYT_sz (by assumption) | exact encYM_sz (by assumption)) (by first | omega | assumption | rfl | decide | exact Nat.le_refl _ | (simp only [size_ic, Value.cells]; omega) | (simp [encWs]; done) | (simp; omega) | simp | exact encYA_sz (by assumption) | exact encYT_sz (by assumption) | exact encYM_sz (by assumption)) (by first | exact oneCell_ic | assumption | exact one_Ws2 _ | exact one_YA2 _ | exact one_YSl2 _ | exact one_YM2 _ | exact one_YT2 _ | exact one_L2 _) (fun h => by cases h) ?_ | refine WH_store Hvac.sizeOf44 rfl (v := .agg _) rfl (Hb.h (by repeat (first | assumption | exact Hb.newY _ _ | refine Hb.alloc ?_ | refine Hb.drew ?_ | refine Hb.ext (by assumption) ?_ | exact Hb.setSameL (by first | omega | (simp only [size_alloc, size_setB, size_drew]; omega)) | exact Hb.setSame (by assumption) | refine Hb.set (by first | omega | (simp only [size_alloc, size_setB, size_drew]; omega)) ?_ ))) (by first | omega | assumption | rfl | decide | exact Nat.le_refl _ | (simp only [size_ic, Value.cells]; omega) | (simp [encWs]; done) | (simp; omega) | simp | exact encYA_sz (by assumption) | exact encYT_sz (by assumption) | exact encYM_sz (by assumption)) (by first | omega | assumption | rfl | decide | exact Nat.le_refl _ | (simp only [size_ic, Value.cells]; omega) | (simp [encWs]; done) | (simp; omega) | simp | exact encYA_sz (by assumption) | exact encYT_sz (by assumption) | exact encYM_sz (by assumption)) (by first | exact oneCell_ic | assumption | exact one_Ws2 _ | exact one_YA2 _ | exact one_YSl2 _ | exact one_YM2 _ | exact one_YT2 _ | exact one_L2 _) (fun h => by cases h) ?_
            refine WH_nil ?_
            refine F_end ?_
            refine thn_normal ?_
            exact ⟨b5, s98, s97, ⟨rfl, rfl, rfl, rfl, trivial⟩, (by repeat (first | assumption | exact Ext.refl _ | refine Ext.alloc ?_ _ | refine Ext.drew ?_ | refine Ext.setB ?_ (by first | omega | (simp only [size_alloc, size_setB, size_drew]; omega)) _ | exact Ext.trans (by assumption) (by assumption) | refine Ext.trans ?_ (by assumption))), by omega, by omega, Hb.mk (Hb.h (by repeat (first | assumption | exact Hb.newY _ _ | refine Hb.alloc ?_ | refine Hb.drew ?_ | refine Hb.ext (by assumption) ?_ | exact Hb.setSameL (by first | omega | (simp only [size_alloc, size_setB, size_drew]; omega)) | exact Hb.setSame (by assumption) | refine Hb.set (by first | omega | (simp only [size_alloc, size_setB, size_drew]; omega)) ?_ ))), Hb.mk (Hb.h (by repeat (first | assumption | exact Hb.newY _ _ | refine Hb.alloc ?_ | refine Hb.drew ?_ | refine Hb.ext (by assumption) ?_ | exact Hb.setSameL (by first | omega | (simp only [size_alloc, size_setB, size_drew]; omega)) | exact Hb.setSame (by assumption) | refine Hb.set (by first | omega | (simp only [size_alloc, size_setB, size_drew]; omega)) ?_ ))), (by first | (refine MB.ext hMB98 ?_; (repeat (first | assumption | exact Ext.refl _ | refine Ext.alloc ?_ _ | refine Ext.drew ?_ | refine Ext.setB ?_ (by first | omega | (simp only [size_alloc, size_setB, size_drew]; omega)) _ | refine Ext.trans ?_ (by assumption))); done) | exact MB.b44 hMB98 (Hb.mk (Hb.h (by repeat (first | assumption | exact Hb.newY _ _ | refine Hb.alloc ?_ | refine Hb.drew ?_ | refine Hb.ext (by assumption) ?_ | exact Hb.setSameL (by first | omega | (simp only [size_alloc, size_setB, size_drew]; omega)) | exact Hb.setSame (by assumption) | refine Hb.set (by first | omega | (simp only [size_alloc, size_setB, size_drew]; omega)) ?_ )))) | exact MB.b44 (MB.ext hMB98 (by repeat (first | assumption | exact Ext.refl _ | refine Ext.alloc ?_ _ | refine Ext.drew ?_ | refine Ext.setB ?_ (by first | omega | (simp only [size_alloc, size_setB, size_drew]; omega)) _ | exact Ext.trans (by assumption) (by assumption) | refine Ext.trans ?_ (by assumption)))) (Hb.mk (Hb.h (by repeat (first | assumption | exact Hb.newY _ _ | refine Hb.alloc ?_ | refine Hb.drew ?_ | refine Hb.ext (by assumption) ?_ | exact Hb.setSameL (by first | omega | (simp only [size_alloc, size_setB, size_drew]; omega)) | exact Hb.setSame (by assumption) | refine Hb.set (by first | omega | (simp only [size_alloc, size_setB, size_drew]; omega)) ?_ ))))), (by first | (refine MB.ext hMB97 ?_; (repeat (first | assumption | exact Ext.refl _ | refine Ext.alloc ?_ _ | refine Ext.drew ?_ | refine Ext.setB ?_ (by first | omega | (simp only [size_alloc, size_setB, size_drew]; omega)) _ | refine Ext.trans ?_ (by assumption))); done) | exact MB.b44 hMB97 (Hb.mk (Hb.h (by repeat (first | assumption | exact Hb.newY _ _ | refine Hb.alloc ?_ | refine Hb.drew ?_ | refine Hb.ext (by assumption) ?_ | exact Hb.setSameL (by first | omega | (simp only [size_alloc, size_setB, size_drew]; omega)) | exact Hb.setSame (by assumption) | refine Hb.set (by first | omega | (simp only [size_alloc, size_setB, size_drew]; omega)) ?_ )))) | exact MB.b44 (MB.ext hMB97 (by repeat (first | assumption | exact Ext.refl _ | refine Ext.alloc ?_ _ | refine Ext.drew ?_ | refine Ext.setB ?_ (by first | omega | (simp only [size_alloc, size_setB, size_drew]; omega)) _ | exact Ext.trans (by assumption) (by assumption) | refine Ext.trans ?_ (by assumption)))) (Hb.mk (Hb.h (by repeat (first | assumption | exact Hb.newY _ _ | refine Hb.alloc ?_ | refine Hb.drew ?_ | refine Hb.ext (by assumption) ?_ | exact Hb.setSameL (by first | omega | (simp only [size_alloc, size_setB, size_drew]; omega)) | exact Hb.setSame (by assumption) | refine Hb.set (by first | omega | (simp only [size_alloc, size_setB, size_drew]; omega)) ?_ )))))⟩
        · refine WH_allocG Hvac.zeroValue44 ?_
          intro b5 v5 hg5 hE5 hH5 hl5
          try simp only [size_alloc, size_setB, size_drew] at hg5
          have hzz5 := hE5.1
          try simp only [size_alloc, size_setB, size_drew] at hzz5
          replace hH5 : Hb v5 b5 (.cells ((encVw vw0).toArray) 44 (0, 0)) := hH5
          refine ⟨fun _ => (by repeat (first | assumption | exact Ext.refl _ | refine Ext.alloc ?_ _ | refine Ext.drew ?_ | refine Ext.setB ?_ (by first | omega | (simp only [size_alloc, size_setB, size_drew]; omega)) _ | exact Ext.trans (by assumption) (by assumption) | refine Ext.trans ?_ (by assumption))), ?_⟩
          refine WH_nil ?_
          refine F_q (i := 36) rfl (by kernel_rfl) ?_
          refine WH_call Hvac.call99 (by rfl) (Ret.mono (memLen_spec C c v B m t lo n _ (MS.ext hM (by repeat (first | assumption | exact Ext.refl _ | refine Ext.alloc ?_ _ | refine Ext.drew ?_ | refine Ext.setB ?_ (by first | omega | (simp only [size_alloc, size_setB, size_drew]; omega)) _ | exact Ext.trans (by assumption) (by assumption) | refine Ext.trans ?_ (by assumption)))) hT) ?_)
          rintro _ w99_11 ⟨hE99_11, rfl⟩
          refine ⟨fun _ => (by repeat (first | assumption | exact Ext.refl _ | refine Ext.alloc ?_ _ | refine Ext.drew ?_ | refine Ext.setB ?_ (by first | omega | (simp only [size_alloc, size_setB, size_drew]; omega)) _ | exact Ext.trans (by assumption) (by assumption) | refine Ext.trans ?_ (by assumption))), ?_⟩
          have hz99_11 := hE99_11.1
          try simp only [size_alloc, size_setB, size_drew] at hz99_11
          refine WH_nil ?_
          refine F_q (i := 37) rfl (by kernel_rfl) ?_
          refine WH_call Hvac.call98 (by rfl) (Ret.mono (memAll_spec C c v B m t lo n _ (MS.ext hM (by repeat (first | assumption | exact Ext.refl _ | refine Ext.alloc ?_ _ | refine Ext.drew ?_ | refine Ext.setB ?_ (by first | omega | (simp only [size_alloc, size_setB, size_drew]; omega)) _ | exact Ext.trans (by assumption) (by assumption) | refine Ext.trans ?_ (by assumption)))) L (BufX.ext hBX (by repeat (first | assumption | exact Ext.refl _ | refine Ext.alloc ?_ _ | refine Ext.drew ?_ | refine Ext.setB ?_ (by first | omega | (simp only [size_alloc, size_setB, size_drew]; omega)) _ | exact Ext.trans (by assumption) (by assumption) | refine Ext.trans ?_ (by assumption)))) hT) ?_)
          rintro _ w98_12 ⟨hE98_12, s98, rfl, hN98⟩
          refine ⟨fun _ => (by repeat (first | assumption | exact Ext.refl _ | refine Ext.alloc ?_ _ | refine Ext.drew ?_ | refine Ext.setB ?_ (by first | omega | (simp only [size_alloc, size_setB, size_drew]; omega)) _ | exact Ext.trans (by assumption) (by assumption) | refine Ext.trans ?_ (by assumption))), ?_⟩
          have hz98_12 := hE98_12.1
          try simp only [size_alloc, size_setB, size_drew] at hz98_12
          have hMB98 := hN98.mb hmb
          refine WH_nil ?_
          refine F_q (i := 38) rfl (by kernel_rfl) ?_
          refine WH_p (PS_move_ptr rfl) rfl ?_
          refine WH_nil ?_
          refine F_q (i := 39) rfl (by kernel_rfl) ?_
          refine WH_p (PS_nilCheck rfl) rfl ?_
          refine WH_nil ?_
          refine F_q (i := 40) rfl (by kernel_rfl) ?_
          refine WH_p (PS_fieldAddr 2259 Hvac.runUnderlying70 rfl Hvac.sizeOf32 rfl rfl) rfl ?_
          refine WH_nil ?_
          refine F_q (i := 41) rfl (by kernel_rfl) ?_
          refine WH_load (.slice _ _ _) Hvac.isAgg32 rfl (Hb.h (by repeat (first | assumption | exact Hb.newY _ _ | refine Hb.alloc ?_ | refine Hb.drew ?_ | refine Hb.ext (by assumption) ?_ | exact Hb.setSameL (by first | omega | (simp only [size_alloc, size_setB, size_drew]; omega)) | exact Hb.setSame (by assumption) | refine Hb.set (by first | omega | (simp only [size_alloc, size_setB, size_drew]; omega)) ?_ ))) (Ce.h (by first | assumption | exact ⟨rfl⟩)) ?_
          refine WH_nil ?_
          refine F_q (i := 42) rfl (by kernel_rfl) ?_
          refine WH_call Hvac.call97 (by rfl) (Ret.mono (copiedM_spec m.ret (rdB w m.ret) _ (BX.sc (BX.ext hM.ret.rd (by repeat (first | assumption | exact Ext.refl _ | refine Ext.alloc ?_ _ | refine Ext.drew ?_ | refine Ext.setB ?_ (by first | omega | (simp only [size_alloc, size_setB, size_drew]; omega)) _ | exact Ext.trans (by assumption) (by assumption) | refine Ext.trans ?_ (by assumption))))) hrt) ?_)
          rintro _ w97_13 ⟨hE97_13, s97, rfl, hN97⟩
          refine ⟨fun _ => (by repeat (first | assumption | exact Ext.refl _ | refine Ext.alloc ?_ _ | refine Ext.drew ?_ | refine Ext.setB ?_ (by first | omega | (simp only [size_alloc, size_setB, size_drew]; omega)) _ | exact Ext.trans (by assumption) (by assumption) | refine Ext.trans ?_ (by assumption))), ?_⟩
          have hz97_13 := hE97_13.1
          try simp only [size_alloc, size_setB, size_drew] at hz97_13
          have hMB97 := hN97.mb hrb
          refine WH_nil ?_
          refine F_q (i := 43) rfl (by kernel_rfl) ?_
          refine WH_p (PS_move_ptr rfl) rfl ?_
          refine WH_nil ?_
          refine F_q (i := 44) rfl (by kernel_rfl) ?_
          refine WH_p (PS_nilCheck rfl) rfl ?_
          refine WH_nil ?_
          refine F_q (i := 45) rfl (by kernel_rfl) ?_
          refine WH_p (PS_fieldAddr 0 Hvac.runUnderlying70 rfl Hvac.sizeOf55 rfl rfl) rfl ?_
          refine WH_nil ?_
          refine F_q (i := 46) rfl (by kernel_rfl) ?_
          refine WH_load (.pointer _) Hvac.isAgg55 rfl (Hb.h (by repeat (first | assumption | exact Hb.newY _ _ | refine Hb.alloc ?_ | refine Hb.drew ?_ | refine Hb.ext (by assumption) ?_ | exact Hb.setSameL (by first | omega | (simp only [size_alloc, size_setB, size_drew]; omega)) | exact Hb.setSame (by assumption) | refine Hb.set (by first | omega | (simp only [size_alloc, size_setB, size_drew]; omega)) ?_ ))) (Ce.h (by first | assumption | exact ⟨rfl⟩)) ?_
          refine WH_nil ?_
          refine F_q (i := 47) rfl (by kernel_rfl) ?_
          refine WH_p (PS_nilCheck rfl) rfl ?_
          refine WH_nil ?_
          refine F_q (i := 48) rfl (by kernel_rfl) ?_
          refine WH_p (PS_fieldAddr 24581 Hvac.runUnderlying80 rfl Hvac.sizeOf76 rfl rfl) rfl ?_
          refine WH_nil ?_
          refine F_q (i := 49) rfl (by kernel_rfl) ?_
          refine WH_load (.slice _ _ _) Hvac.isAgg76 rfl (Hb.h (by repeat (first | assumption | exact Hb.newY _ _ | refine Hb.alloc ?_ | refine Hb.drew ?_ | refine Hb.ext (by assumption) ?_ | exact Hb.setSameL (by first | omega | (simp only [size_alloc, size_setB, size_drew]; omega)) | exact Hb.setSame (by assumption) | refine Hb.set (by first | omega | (simp only [size_alloc, size_setB, size_drew]; omega)) ?_ ))) (Ce.h (by first | assumption | exact ⟨rfl⟩)) ?_
          refine WH_nil ?_
          refine F_q (i := 50) rfl (by kernel_rfl) ?_
          refine WH_p (PS_lenS Hvac.runUnderlying76 rfl) rfl ?_
          refine WH_nil ?_
          refine F_q (i := 51) rfl (by kernel_rfl) ?_
          refine WH_p (PS_and16 rfl rfl (by omega) (by omega)) rfl ?_
          refine WH_nil ?_
          refine F_q (i := 52) rfl (by kernel_rfl) ?_
          refine WH_p (PS_conv_u16n Hvac.runUnderlying3 Hvac.runUnderlying42 rfl (by omega) (by omega)) rfl ?_
          refine WH_nil ?_
          refine F_q (i := 53) rfl (by kernel_rfl) ?_
          refine WH_p (PS_b44_r rfl rfl rfl rfl rfl rfl hsfl rfl hcal rfl rfl rfl) rfl ?_
          rw [show ((s98.1, s98.2.1, s98.2.2) : SV) = s98 from rfl, show ((s97.1, s97.2.1, s97.2.2) : SV) = s97 from rfl]
          have hszv : (encVw ⟨false, f.static, (t : Int), f.pc, f.gas, v.ref, f.self, f.caller, (none, 0, 0), s98, s97, (v.logs.length : Int)⟩).toArray.size = 50 := encVw_sz hsfl hcal
          have honev := one_Vw ⟨false, f.static, (t : Int), f.pc, f.gas, v.ref, f.self, f.caller, (none, 0, 0), s98, s97, (v.logs.length : Int)⟩
          refine WH_nil ?_
          refine F_q (i := 55) rfl (by kernel_rfl) ?_
          first | refine WH_storeW Hvac.sizeOf44 rfl (v := .agg _) rfl (Hb.h (by repeat (first | assumption | exact Hb.newY _ _ | refine Hb.alloc ?_ | refine Hb.drew ?_ | refine Hb.ext (by assumption) ?_ | exact Hb.setSameL (by first | omega | (simp only [size_alloc, size_setB, size_drew]; omega)) | exact Hb.setSame (by assumption) | refine Hb.set (by first | omega | (simp only [size_alloc, size_setB, size_drew]; omega)) ?_ ))) rfl (by first | omega | assumption | rfl | decide | exact Nat.le_refl _ | (simp only [size_ic, Value.cells]; omega) | (simp [encWs]; done) | (simp; omega) | simp | exact encYA_sz (by assumption) | exact encYT_sz (by assumption) | exact encYM_sz (by assumption)) (by first | omega | assumption | rfl | decide | exact Nat.le_refl _ | (simp only [size_ic, Value.cells]; omega) | (simp [encWs]; done) | (simp; omega) | simp | exact encYA_sz (by assumption) | exact encYT_sz (by assumption) | exact encYM_sz (by assumption)) (by first | exact oneCell_ic | assumption | exact one_Ws2 _ | exact one_YA2 _ | exact one_YSl2 _ | exact one_YM2 _ | exact one_YT2 _ | exact one_L2 _) (fun h => by cases h) ?_ | refine WH_store Hvac.sizeOf44 rfl (v := .agg _) rfl (Hb.h (by repeat (first | assumption | exact Hb.newY _ _ | refine Hb.alloc ?_ | refine Hb.drew ?_ | refine Hb.ext (by assumption) ?_ | exact Hb.setSameL (by first | omega | (simp only [size_alloc, size_setB, size_drew]; omega)) | exact Hb.setSame (by assumption) | refine Hb.set (by first | omega | (simp only [size_alloc, size_setB, size_drew]; omega)) ?_ ))) (by first | omega | assumption | rfl | decide | exact Nat.le_refl _ | (simp only [size_ic, Value.cells]; omega) | (simp [encWs]; done) | (simp; omega) | simp | exact encYA_sz (by assumption) | exact encYT_sz (by assumption) | exact encYM_sz (by assumption)) (by first | omega | assumption | rfl | decide | exact Nat.le_refl _ | (simp only [size_ic, Value.cells]; omega) | (simp [encWs]; done) | (simp; omega) | simp | exact encYA_sz (by assumption) | exact encYT_sz (by assumption) | exact encYM_sz (by assumption)) (by first | exact oneCell_ic | assumption | exact one_Ws2 _ | exact one_YA2 _ | exact one_YSl2 _ | exact one_YM2 _ | exact one_YT2 _ | exact one_L2 _) (fun h => by cases h) ?_
          refine WH_nil ?_
          refine F_end ?_
          refine thn_normal ?_
          exact ⟨b5, s98, s97, ⟨rfl, rfl, rfl, rfl, trivial⟩, (by repeat (first | assumption | exact Ext.refl _ | refine Ext.alloc ?_ _ | refine Ext.drew ?_ | refine Ext.setB ?_ (by first | omega | (simp only [size_alloc, size_setB, size_drew]; omega)) _ | exact Ext.trans (by assumption) (by assumption) | refine Ext.trans ?_ (by assumption))), by omega, by omega, Hb.mk (Hb.h (by repeat (first | assumption | exact Hb.newY _ _ | refine Hb.alloc ?_ | refine Hb.drew ?_ | refine Hb.ext (by assumption) ?_ | exact Hb.setSameL (by first | omega | (simp only [size_alloc, size_setB, size_drew]; omega)) | exact Hb.setSame (by assumption) | refine Hb.set (by first | omega | (simp only [size_alloc, size_setB, size_drew]; omega)) ?_ ))), Hb.mk (Hb.h (by repeat (first | assumption | exact Hb.newY _ _ | refine Hb.alloc ?_ | refine Hb.drew ?_ | refine Hb.ext (by assumption) ?_ | exact Hb.setSameL (by first | omega | (simp only [size_alloc, size_setB, size_drew]; omega)) | exact Hb.setSame (by assumption) | refine Hb.set (by first | omega | (simp only [size_alloc, size_setB, size_drew]; omega)) ?_ ))), (by first | (refine MB.ext hMB98 ?_; (repeat (first | assumption | exact Ext.refl _ | refine Ext.alloc ?_ _ | refine Ext.drew ?_ | refine Ext.setB ?_ (by first | omega | (simp only [size_alloc, size_setB, size_drew]; omega)) _ | refine Ext.trans ?_ (by assumption))); done) | exact MB.b44 hMB98 (Hb.mk (Hb.h (by repeat (first | assumption | exact Hb.newY _ _ | refine Hb.alloc ?_ | refine Hb.drew ?_ | refine Hb.ext (by assumption) ?_ | exact Hb.setSameL (by first | omega | (simp only [size_alloc, size_setB, size_drew]; omega)) | exact Hb.setSame (by assumption) | refine Hb.set (by first | omega | (simp only [size_alloc, size_setB, size_drew]; omega)) ?_ )))) | exact MB.b44 (MB.ext hMB98 (by repeat (first | assumption | exact Ext.refl _ | refine Ext.alloc ?_ _ | refine Ext.drew ?_ | refine Ext.setB ?_ (by first | omega | (simp only [size_alloc, size_setB, size_drew]; omega)) _ | exact Ext.trans (by assumption) (by assumption) | refine Ext.trans ?_ (by assumption)))) (Hb.mk (Hb.h (by repeat (first | assumption | exact Hb.newY _ _ | refine Hb.alloc ?_ | refine Hb.drew ?_ | refine Hb.ext (by assumption) ?_ | exact Hb.setSameL (by first | omega | (simp only [size_alloc, size_setB, size_drew]; omega)) | exact Hb.setSame (by assumption) | refine Hb.set (by first | omega | (simp only [size_alloc, size_setB, size_drew]; omega)) ?_ ))))), (by first | (refine MB.ext hMB97 ?_; (repeat (first | assumption | exact Ext.refl _ | refine Ext.alloc ?_ _ | refine Ext.drew ?_ | refine Ext.setB ?_ (by first | omega | (simp only [size_alloc, size_setB, size_drew]; omega)) _ | refine Ext.trans ?_ (by assumption))); done) | exact MB.b44 hMB97 (Hb.mk (Hb.h (by repeat (first | assumption | exact Hb.newY _ _ | refine Hb.alloc ?_ | refine Hb.drew ?_ | refine Hb.ext (by assumption) ?_ | exact Hb.setSameL (by first | omega | (simp only [size_alloc, size_setB, size_drew]; omega)) | exact Hb.setSame (by assumption) | refine Hb.set (by first | omega | (simp only [size_alloc, size_setB, size_drew]; omega)) ?_ )))) | exact MB.b44 (MB.ext hMB97 (by repeat (first | assumption | exact Ext.refl _ | refine Ext.alloc ?_ _ | refine Ext.drew ?_ | refine Ext.setB ?_ (by first | omega | (simp only [size_alloc, size_setB, size_drew]; omega)) _ | exact Ext.trans (by assumption) (by assumption) | refine Ext.trans ?_ (by assumption)))) (Hb.mk (Hb.h (by repeat (first | assumption | exact Hb.newY _ _ | refine Hb.alloc ?_ | refine Hb.drew ?_ | refine Hb.ext (by assumption) ?_ | exact Hb.setSameL (by first | omega | (simp only [size_alloc, size_setB, size_drew]; omega)) | exact Hb.setSame (by assumption) | refine Hb.set (by first | omega | (simp only [size_alloc, size_setB, size_drew]; omega)) ?_ )))))⟩
      · refine WH_allocG Hvac.zeroValue44 ?_
        intro b5 v5 hg5 hE5 hH5 hl5
        try simp only [size_alloc, size_setB, size_drew] at hg5
        have hzz5 := hE5.1
        try simp only [size_alloc, size_setB, size_drew] at hzz5
        replace hH5 : Hb v5 b5 (.cells ((encVw vw0).toArray) 44 (0, 0)) := hH5
        refine ⟨fun _ => (by repeat (first | assumption | exact Ext.refl _ | refine Ext.alloc ?_ _ | refine Ext.drew ?_ | refine Ext.setB ?_ (by first | omega | (simp only [size_alloc, size_setB, size_drew]; omega)) _ | exact Ext.trans (by assumption) (by assumption) | refine Ext.trans ?_ (by assumption))), ?_⟩
        refine WH_nil ?_
        refine F_q (i := 21) rfl (by kernel_rfl) ?_
        refine WH_call Hvac.call96 (by rfl) (Ret.mono (refund_spec C c v B m _ (MS.ext hM (by repeat (first | assumption | exact Ext.refl _ | refine Ext.alloc ?_ _ | refine Ext.drew ?_ | refine Ext.setB ?_ (by first | omega | (simp only [size_alloc, size_setB, size_drew]; omega)) _ | exact Ext.trans (by assumption) (by assumption) | refine Ext.trans ?_ (by assumption))))) ?_)
        rintro _ w96_14 ⟨hE96_14, rfl⟩
        refine ⟨fun _ => (by repeat (first | assumption | exact Ext.refl _ | refine Ext.alloc ?_ _ | refine Ext.drew ?_ | refine Ext.setB ?_ (by first | omega | (simp only [size_alloc, size_setB, size_drew]; omega)) _ | exact Ext.trans (by assumption) (by assumption) | refine Ext.trans ?_ (by assumption))), ?_⟩
        have hz96_14 := hE96_14.1
        try simp only [size_alloc, size_setB, size_drew] at hz96_14
        refine WH_nil ?_
        refine F_q (i := 22) rfl (by kernel_rfl) ?_
        refine WH_p (PS_move_ptr rfl) rfl ?_
        refine WH_nil ?_
        refine F_q (i := 23) rfl (by kernel_rfl) ?_
        refine WH_p (PS_nilCheck rfl) rfl ?_
        refine WH_nil ?_
        refine F_q (i := 24) rfl (by kernel_rfl) ?_
        refine WH_p (PS_fieldAddr 9 Hvac.runUnderlying66 rfl Hvac.sizeOf25 rfl rfl) rfl ?_
        refine WH_nil ?_
        refine F_q (i := 25) rfl (by kernel_rfl) ?_
        refine WH_loadA _ Hvac.isAgg25 Hvac.sizeOf25 rfl (Hb.h (by repeat (first | assumption | exact Hb.newY _ _ | refine Hb.alloc ?_ | refine Hb.drew ?_ | refine Hb.ext (by assumption) ?_ | exact Hb.setSameL (by first | omega | (simp only [size_alloc, size_setB, size_drew]; omega)) | exact Hb.setSame (by assumption) | refine Hb.set (by first | omega | (simp only [size_alloc, size_setB, size_drew]; omega)) ?_ ))) (by first | omega | assumption | rfl | decide | exact Nat.le_refl _ | (simp only [size_ic, Value.cells]; omega) | (simp [encWs]; done) | (simp; omega) | simp | exact encYA_sz (by assumption) | exact encYT_sz (by assumption) | exact encYM_sz (by assumption)) (Xt.h (by first | assumption | exact Xt.whole rfl rfl | exact Xt.whole rfl (by assumption) | exact Xt.whole rfl (by simp only [size_ic, Value.cells]; omega) | exact ⟨rfl⟩)) ?_
        refine WH_nil ?_
        refine F_q (i := 26) rfl (by kernel_rfl) ?_
        refine WH_p (PS_move_ptr rfl) rfl ?_
        refine WH_nil ?_
        refine F_q (i := 27) rfl (by kernel_rfl) ?_
        refine WH_p (PS_nilCheck rfl) rfl ?_
        refine WH_nil ?_
        refine F_q (i := 28) rfl (by kernel_rfl) ?_
        refine WH_p (PS_fieldAddr 29 Hvac.runUnderlying66 rfl Hvac.sizeOf25 rfl rfl) rfl ?_
        refine WH_nil ?_
        refine F_q (i := 29) rfl (by kernel_rfl) ?_
        refine WH_loadA _ Hvac.isAgg25 Hvac.sizeOf25 rfl (Hb.h (by repeat (first | assumption | exact Hb.newY _ _ | refine Hb.alloc ?_ | refine Hb.drew ?_ | refine Hb.ext (by assumption) ?_ | exact Hb.setSameL (by first | omega | (simp only [size_alloc, size_setB, size_drew]; omega)) | exact Hb.setSame (by assumption) | refine Hb.set (by first | omega | (simp only [size_alloc, size_setB, size_drew]; omega)) ?_ ))) (by first | omega | assumption | rfl | decide | exact Nat.le_refl _ | (simp only [size_ic, Value.cells]; omega) | (simp [encWs]; done) | (simp; omega) | simp | exact encYA_sz (by assumption) | exact encYT_sz (by assumption) | exact encYM_sz (by assumption)) (Xt.h (by first | assumption | exact Xt.whole rfl rfl | exact Xt.whole rfl (by assumption) | exact Xt.whole rfl (by simp only [size_ic, Value.cells]; omega) | exact ⟨rfl⟩)) ?_
        refine WH_nil ?_
        refine F_q (i := 30) rfl (by kernel_rfl) ?_
        refine WH_p (PS_move_ptr rfl) rfl ?_
        refine WH_nil ?_
        refine F_q (i := 31) rfl (by kernel_rfl) ?_
        refine WH_p (PS_nilCheck rfl) rfl ?_
        refine WH_nil ?_
        refine F_q (i := 32) rfl (by kernel_rfl) ?_
        refine WH_p (PS_fieldAddr 1 Hvac.runUnderlying70 rfl Hvac.sizeOf59 rfl rfl) rfl ?_
        refine WH_nil ?_
        refine F_q (i := 33) rfl (by kernel_rfl) ?_
        refine WH_p (PS_move_ptr rfl) rfl ?_
        refine WH_nil ?_
        refine F_q (i := 34) rfl (by kernel_rfl) ?_
        refine WH_p (PS_nilCheck rfl) rfl ?_
        refine WH_nil ?_
        refine F_q (i := 35) rfl (by kernel_rfl) ?_
        refine WH_p (PS_fieldAddr 1 Hvac.runUnderlying70 rfl Hvac.sizeOf59 rfl rfl) rfl ?_
        refine WH_nil ?_
        refine F_q (i := 36) rfl (by kernel_rfl) ?_
        refine WH_call Hvac.call99 (by rfl) (Ret.mono (memLen_spec C c v B m t lo n _ (MS.ext hM (by repeat (first | assumption | exact Ext.refl _ | refine Ext.alloc ?_ _ | refine Ext.drew ?_ | refine Ext.setB ?_ (by first | omega | (simp only [size_alloc, size_setB, size_drew]; omega)) _ | exact Ext.trans (by assumption) (by assumption) | refine Ext.trans ?_ (by assumption)))) hT) ?_)
        rintro _ w99_15 ⟨hE99_15, rfl⟩
        refine ⟨fun _ => (by repeat (first | assumption | exact Ext.refl _ | refine Ext.alloc ?_ _ | refine Ext.drew ?_ | refine Ext.setB ?_ (by first | omega | (simp only [size_alloc, size_setB, size_drew]; omega)) _ | exact Ext.trans (by assumption) (by assumption) | refine Ext.trans ?_ (by assumption))), ?_⟩
        have hz99_15 := hE99_15.1
        try simp only [size_alloc, size_setB, size_drew] at hz99_15
        refine WH_nil ?_
        refine F_q (i := 37) rfl (by kernel_rfl) ?_
        refine WH_call Hvac.call98 (by rfl) (Ret.mono (memAll_spec C c v B m t lo n _ (MS.ext hM (by repeat (first | assumption | exact Ext.refl _ | refine Ext.alloc ?_ _ | refine Ext.drew ?_ | refine Ext.setB ?_ (by first | omega | (simp only [size_alloc, size_setB, size_drew]; omega)) _ | exact Ext.trans (by assumption) (by assumption) | refine Ext.trans ?_ (by assumption)))) L (BufX.ext hBX (by repeat (first | assumption | exact Ext.refl _ | refine Ext.alloc ?_ _ | refine Ext.drew ?_ | refine Ext.setB ?_ (by first | omega | (simp only [size_alloc, size_setB, size_drew]; omega)) _ | exact Ext.trans (by assumption) (by assumption) | refine Ext.trans ?_ (by assumption)))) hT) ?_)
        rintro _ w98_16 ⟨hE98_16, s98, rfl, hN98⟩
        refine ⟨fun _ => (by repeat (first | assumption | exact Ext.refl _ | refine Ext.alloc ?_ _ | refine Ext.drew ?_ | refine Ext.setB ?_ (by first | omega | (simp only [size_alloc, size_setB, size_drew]; omega)) _ | exact Ext.trans (by assumption) (by assumption) | refine Ext.trans ?_ (by assumption))), ?_⟩
        have hz98_16 := hE98_16.1
        try simp only [size_alloc, size_setB, size_drew] at hz98_16
        have hMB98 := hN98.mb hmb
        refine WH_nil ?_
        refine F_q (i := 38) rfl (by kernel_rfl) ?_
        refine WH_p (PS_move_ptr rfl) rfl ?_
        refine WH_nil ?_
        refine F_q (i := 39) rfl (by kernel_rfl) ?_
        refine WH_p (PS_nilCheck rfl) rfl ?_
        refine WH_nil ?_
        refine F_q (i := 40) rfl (by kernel_rfl) ?_
        refine WH_p (PS_fieldAddr 2259 Hvac.runUnderlying70 rfl Hvac.sizeOf32 rfl rfl) rfl ?_
        refine WH_nil ?_
        refine F_q (i := 41) rfl (by kernel_rfl) ?_
        refine WH_load (.slice _ _ _) Hvac.isAgg32 rfl (Hb.h (by repeat (first | assumption | exact Hb.newY _ _ | refine Hb.alloc ?_ | refine Hb.drew ?_ | refine Hb.ext (by assumption) ?_ | exact Hb.setSameL (by first | omega | (simp only [size_alloc, size_setB, size_drew]; omega)) | exact Hb.setSame (by assumption) | refine Hb.set (by first | omega | (simp only [size_alloc, size_setB, size_drew]; omega)) ?_ ))) (Ce.h (by first | assumption | exact ⟨rfl⟩)) ?_
        refine WH_nil ?_
        refine F_q (i := 42) rfl (by kernel_rfl) ?_
        refine WH_call Hvac.call97 (by rfl) (Ret.mono (copiedM_spec m.ret (rdB w m.ret) _ (BX.sc (BX.ext hM.ret.rd (by repeat (first | assumption | exact Ext.refl _ | refine Ext.alloc ?_ _ | refine Ext.drew ?_ | refine Ext.setB ?_ (by first | omega | (simp only [size_alloc, size_setB, size_drew]; omega)) _ | exact Ext.trans (by assumption) (by assumption) | refine Ext.trans ?_ (by assumption))))) hrt) ?_)
        rintro _ w97_17 ⟨hE97_17, s97, rfl, hN97⟩
        refine ⟨fun _ => (by repeat (first | assumption | exact Ext.refl _ | refine Ext.alloc ?_ _ | refine Ext.drew ?_ | refine Ext.setB ?_ (by first | omega | (simp only [size_alloc, size_setB, size_drew]; omega)) _ | exact Ext.trans (by assumption) (by assumption) | refine Ext.trans ?_ (by assumption))), ?_⟩
        have hz97_17 := hE97_17.1
        try simp only [size_alloc, size_setB, size_drew] at hz97_17
        have hMB97 := hN97.mb hrb
        refine WH_nil ?_
        refine F_q (i := 43) rfl (by kernel_rfl) ?_
        refine WH_p (PS_move_ptr rfl) rfl ?_
        refine WH_nil ?_
        refine F_q (i := 44) rfl (by kernel_rfl) ?_
        refine WH_p (PS_nilCheck rfl) rfl ?_
        refine WH_nil ?_
        refine F_q (i := 45) rfl (by kernel_rfl) ?_
        refine WH_p (PS_fieldAddr 0 Hvac.runUnderlying70 rfl Hvac.sizeOf55 rfl rfl) rfl ?_
        refine WH_nil ?_
        refine F_q (i := 46) rfl (by kernel_rfl) ?_
        refine WH_load (.pointer _) Hvac.isAgg55 rfl (Hb.h (by repeat (first | assumption | exact Hb.newY _ _ | refine Hb.alloc ?_ | refine Hb.drew ?_ | refine Hb.ext (by assumption) ?_ | exact Hb.setSameL (by first | omega | (simp only [size_alloc, size_setB, size_drew]; omega)) | exact Hb.setSame (by assumption) | refine Hb.set (by first | omega | (simp only [size_alloc, size_setB, size_drew]; omega)) ?_ ))) (Ce.h (by first | assumption | exact ⟨rfl⟩)) ?_
        refine WH_nil ?_
        refine F_q (i := 47) rfl (by kernel_rfl) ?_
        refine WH_p (PS_nilCheck rfl) rfl ?_
        refine WH_nil ?_
        refine F_q (i := 48) rfl (by kernel_rfl) ?_
        refine WH_p (PS_fieldAddr 24581 Hvac.runUnderlying80 rfl Hvac.sizeOf76 rfl rfl) rfl ?_
        refine WH_nil ?_
        refine F_q (i := 49) rfl (by kernel_rfl) ?_
        refine WH_load (.slice _ _ _) Hvac.isAgg76 rfl (Hb.h (by repeat (first | assumption | exact Hb.newY _ _ | refine Hb.alloc ?_ | refine Hb.drew ?_ | refine Hb.ext (by assumption) ?_ | exact Hb.setSameL (by first | omega | (simp only [size_alloc, size_setB, size_drew]; omega)) | exact Hb.setSame (by assumption) | refine Hb.set (by first | omega | (simp only [size_alloc, size_setB, size_drew]; omega)) ?_ ))) (Ce.h (by first | assumption | exact ⟨rfl⟩)) ?_
        refine WH_nil ?_
        refine F_q (i := 50) rfl (by kernel_rfl) ?_
        refine WH_p (PS_lenS Hvac.runUnderlying76 rfl) rfl ?_
        refine WH_nil ?_
        refine F_q (i := 51) rfl (by kernel_rfl) ?_
        refine WH_p (PS_and16 rfl rfl (by omega) (by omega)) rfl ?_
        refine WH_nil ?_
        refine F_q (i := 52) rfl (by kernel_rfl) ?_
        refine WH_p (PS_conv_u16n Hvac.runUnderlying3 Hvac.runUnderlying42 rfl (by omega) (by omega)) rfl ?_
        refine WH_nil ?_
        refine F_q (i := 53) rfl (by kernel_rfl) ?_
        refine WH_p (PS_b44_r rfl rfl rfl rfl rfl rfl hsfl rfl hcal rfl rfl rfl) rfl ?_
        rw [show ((s98.1, s98.2.1, s98.2.2) : SV) = s98 from rfl, show ((s97.1, s97.2.1, s97.2.2) : SV) = s97 from rfl]
        have hszv : (encVw ⟨false, f.static, (t : Int), f.pc, f.gas, v.ref, f.self, f.caller, (none, 0, 0), s98, s97, (v.logs.length : Int)⟩).toArray.size = 50 := encVw_sz hsfl hcal
        have honev := one_Vw ⟨false, f.static, (t : Int), f.pc, f.gas, v.ref, f.self, f.caller, (none, 0, 0), s98, s97, (v.logs.length : Int)⟩
        refine WH_nil ?_
        refine F_q (i := 55) rfl (by kernel_rfl) ?_
        first | refine WH_storeW Hvac.sizeOf44 rfl (v := .agg _) rfl (Hb.h (by repeat (first | assumption | exact Hb.newY _ _ | refine Hb.alloc ?_ | refine Hb.drew ?_ | refine Hb.ext (by assumption) ?_ | exact Hb.setSameL (by first | omega | (simp only [size_alloc, size_setB, size_drew]; omega)) | exact Hb.setSame (by assumption) | refine Hb.set (by first | omega | (simp only [size_alloc, size_setB, size_drew]; omega)) ?_ ))) rfl (by first | omega | assumption | rfl | decide | exact Nat.le_refl _ | (simp only [size_ic, Value.cells]; omega) | (simp [encWs]; done) | (simp; omega) | simp | exact encYA_sz (by assumption) | exact encYT_sz (by assumption) | exact encYM_sz (by assumption)) (by first | omega | assumption | rfl | decide | exact Nat.le_refl _ | (simp only [size_ic, Value.cells]; omega) | (simp [encWs]; done) | (simp; omega) | simp | exact encYA_sz (by assumption) | exact encYT_sz (by assumption) | exact encYM_sz (by assumption)) (by first | exact oneCell_ic | assumption | exact one_Ws2 _ | exact one_YA2 _ | exact one_YSl2 _ | exact one_YM2 _ | exact one_YT2 _ | exact one_L2 _) (fun h => by cases h) ?_ | refine WH_store Hvac.sizeOf44 rfl (v := .agg _) rfl (Hb.h (by repeat (first | assumption | exact Hb.newY _ _ | refine Hb.alloc ?_ | refine Hb.drew ?_ | refine Hb.ext (by assumption) ?_ | exact Hb.setSameL (by first | omega | (simp only [size_alloc, size_setB, size_drew]; omega)) | exact Hb.setSame (by assumption) | refine Hb.set (by first | omega | (simp only [size_alloc, size_setB, size_drew]; omega)) ?_ ))) (by first | omega | assumption | rfl | decide | exact Nat.le_refl _ | (simp only [size_ic, Value.cells]; omega) | (simp [encWs]; done) | (simp; omega) | simp | exact encYA_sz (by assumption) | exact encYT_sz (by assumption) | exact encYM_sz (by assumption)) (by first | omega | assumption | rfl | decide | exact Nat.le_refl _ | (simp only [size_ic, Value.cells]; omega) | (simp [encWs]; done) | (simp; omega) | simp | exact encYA_sz (by assumption) | exact encYT_sz (by assumption) | exact encYM_sz (by assumption)) (by first | exact oneCell_ic | assumption | exact one_Ws2 _ | exact one_YA2 _ | exact one_YSl2 _ | exact one_YM2 _ | exact one_YT2 _ | exact one_L2 _) (fun h => by cases h) ?_
        refine WH_nil ?_
        refine F_end ?_
        refine thn_normal ?_
        exact ⟨b5, s98, s97, ⟨rfl, rfl, rfl, rfl, trivial⟩, (by repeat (first | assumption | exact Ext.refl _ | refine Ext.alloc ?_ _ | refine Ext.drew ?_ | refine Ext.setB ?_ (by first | omega | (simp only [size_alloc, size_setB, size_drew]; omega)) _ | exact Ext.trans (by assumption) (by assumption) | refine Ext.trans ?_ (by assumption))), by omega, by omega, Hb.mk (Hb.h (by repeat (first | assumption | exact Hb.newY _ _ | refine Hb.alloc ?_ | refine Hb.drew ?_ | refine Hb.ext (by assumption) ?_ | exact Hb.setSameL (by first | omega | (simp only [size_alloc, size_setB, size_drew]; omega)) | exact Hb.setSame (by assumption) | refine Hb.set (by first | omega | (simp only [size_alloc, size_setB, size_drew]; omega)) ?_ ))), Hb.mk (Hb.h (by repeat (first | assumption | exact Hb.newY _ _ | refine Hb.alloc ?_ | refine Hb.drew ?_ | refine Hb.ext (by assumption) ?_ | exact Hb.setSameL (by first | omega | (simp only [size_alloc, size_setB, size_drew]; omega)) | exact Hb.setSame (by assumption) | refine Hb.set (by first | omega | (simp only [size_alloc, size_setB, size_drew]; omega)) ?_ ))), (by first | (refine MB.ext hMB98 ?_; (repeat (first | assumption | exact Ext.refl _ | refine Ext.alloc ?_ _ | refine Ext.drew ?_ | refine Ext.setB ?_ (by first | omega | (simp only [size_alloc, size_setB, size_drew]; omega)) _ | refine Ext.trans ?_ (by assumption))); done) | exact MB.b44 hMB98 (Hb.mk (Hb.h (by repeat (first | assumption | exact Hb.newY _ _ | refine Hb.alloc ?_ | refine Hb.drew ?_ | refine Hb.ext (by assumption) ?_ | exact Hb.setSameL (by first | omega | (simp only [size_alloc, size_setB, size_drew]; omega)) | exact Hb.setSame (by assumption) | refine Hb.set (by first | omega | (simp only [size_alloc, size_setB, size_drew]; omega)) ?_ )))) | exact MB.b44 (MB.ext hMB98 (by repeat (first | assumption | exact Ext.refl _ | refine Ext.alloc ?_ _ | refine Ext.drew ?_ | refine Ext.setB ?_ (by first | omega | (simp only [size_alloc, size_setB, size_drew]; omega)) _ | exact Ext.trans (by assumption) (by assumption) | refine Ext.trans ?_ (by assumption)))) (Hb.mk (Hb.h (by repeat (first | assumption | exact Hb.newY _ _ | refine Hb.alloc ?_ | refine Hb.drew ?_ | refine Hb.ext (by assumption) ?_ | exact Hb.setSameL (by first | omega | (simp only [size_alloc, size_setB, size_drew]; omega)) | exact Hb.setSame (by assumption) | refine Hb.set (by first | omega | (simp only [size_alloc, size_setB, size_drew]; omega)) ?_ ))))), (by first | (refine MB.ext hMB97 ?_; (repeat (first | assumption | exact Ext.refl _ | refine Ext.alloc ?_ _ | refine Ext.drew ?_ | refine Ext.setB ?_ (by first | omega | (simp only [size_alloc, size_setB, size_drew]; omega)) _ | refine Ext.trans ?_ (by assumption))); done) | exact MB.b44 hMB97 (Hb.mk (Hb.h (by repeat (first | assumption | exact Hb.newY _ _ | refine Hb.alloc ?_ | refine Hb.drew ?_ | refine Hb.ext (by assumption) ?_ | exact Hb.setSameL (by first | omega | (simp only [size_alloc, size_setB, size_drew]; omega)) | exact Hb.setSame (by assumption) | refine Hb.set (by first | omega | (simp only [size_alloc, size_setB, size_drew]; omega)) ?_ )))) | exact MB.b44 (MB.ext hMB97 (by repeat (first | assumption | exact Ext.refl _ | refine Ext.alloc ?_ _ | refine Ext.drew ?_ | refine Ext.setB ?_ (by first | omega | (simp only [size_alloc, size_setB, size_drew]; omega)) _ | exact Ext.trans (by assumption) (by assumption) | refine Ext.trans ?_ (by assumption)))) (Hb.mk (Hb.h (by repeat (first | assumption | exact Hb.newY _ _ | refine Hb.alloc ?_ | refine Hb.drew ?_ | refine Hb.ext (by assumption) ?_ | exact Hb.setSameL (by first | omega | (simp only [size_alloc, size_setB, size_drew]; omega)) | exact Hb.setSame (by assumption) | refine Hb.set (by first | omega | (simp only [size_alloc, size_setB, size_drew]; omega)) ?_ )))))⟩
    · rintro ρ8 w8 ⟨b5, s9, s10, hFr8, hE8, hg5, hne25, hb28, hb58, hP9, hP10⟩
      refine W_env _ hFr8 ?_
      have hz8 := hE8.1
      have hb28l := hb28.lt
      have hb58l := hb58.lt
      have hblk8 := hblk.ext hE8
      have hE8d : Ext w8 w8.drew := Ext.drew (Ext.refl _)
      have hone8 := one_Vw ⟨false, f.static, (t : Int), f.pc, f.gas, v.ref, f.self, f.caller, (none, 0, 0), s9, s10, (v.logs.length : Int)⟩
      have hsz8 : (encVw ⟨false, f.static, (t : Int), f.pc, f.gas, v.ref, f.self, f.caller, (none, 0, 0), s9, s10, (v.logs.length : Int)⟩).toArray.size = 50 := encVw_sz hsfl hcal
      refine W_seq ?_
      refine W_seq ?_
      refine W_drawE [false, false, false, false, false, false, false, false, false, false, false, false, false, false, false, false, false, false, false] hmix (by kernel_rfl) rfl ?_
      refine WH_p (PS_move_ptr rfl) rfl ?_
      refine WH_p (PS_nilCheck rfl) rfl ?_
      refine WH_p (PS_fieldAddr 6 Hvac.runUnderlying66 rfl Hvac.sizeOf42 rfl rfl) rfl ?_
      refine WH_load (.int _ _) Hvac.isAgg42 rfl (Hb.h (by repeat (first | assumption | exact Hb.newY _ _ | refine Hb.alloc ?_ | refine Hb.drew ?_ | refine Hb.ext (by assumption) ?_ | exact Hb.setSameL (by first | omega | (simp only [size_alloc, size_setB, size_drew]; omega)) | exact Hb.setSame (by assumption) | refine Hb.set (by first | omega | (simp only [size_alloc, size_setB, size_drew]; omega)) ?_ ))) (Ce.h (by first | assumption | exact ⟨rfl⟩)) ?_
      refine WH_p (PS_eql rfl rfl) rfl ?_
      refine WH_p (PS_move_bool rfl) rfl ?_
      refine WH_if (t := 114) rfl (fun hb20 => ?_) (fun hb20 => ?_)
      · have hb20p := hb20.h; try simp only [al_ete, al_dfn, Bool.not_eq_true', Bool.not_eq_false', al_ne, Bool.not_not, al_nn] at hb20p
        have hsp0 : f.sp = 0 := hb20p
        refine WH_guardF rfl rfl hb20.h ?_
        refine WH_guardF rfl rfl hb20.h ?_
        refine WH_guardF rfl rfl hb20.h ?_
        refine WH_guardF rfl rfl hb20.h ?_
        refine WH_guardF rfl rfl hb20.h ?_
        refine WH_guardF rfl rfl hb20.h ?_
        refine WH_guardF rfl rfl hb20.h ?_
        refine WH_guardF rfl rfl hb20.h ?_
        refine WH_guardF rfl rfl hb20.h ?_
        refine WH_guardF rfl rfl hb20.h ?_
        refine WH_guardF rfl rfl hb20.h ?_
        refine WH_guardF rfl rfl hb20.h ?_
        refine WH_p (PS_pickT rfl hb20.h rfl) rfl ?_
        refine WH_nil ?_
        refine thn_normal ?_
        refine W_condT rfl rfl ?_
        refine W_seq ?_
        refine W_region rfl ?_
        refine WO_loadA _ Hvac.isAgg44 Hvac.sizeOf44 rfl (Hb.h (by repeat (first | assumption | exact Hb.newY _ _ | refine Hb.alloc ?_ | refine Hb.drew ?_ | refine Hb.ext (by assumption) ?_ | exact Hb.setSameL (by first | omega | (simp only [size_alloc, size_setB, size_drew]; omega)) | exact Hb.setSame (by assumption) | refine Hb.set (by first | omega | (simp only [size_alloc, size_setB, size_drew]; omega)) ?_ ))) (by first | omega | assumption | rfl | decide | exact Nat.le_refl _ | (simp only [size_ic, Value.cells]; omega) | (simp [encWs]; done) | (simp; omega) | simp | exact encYA_sz (by assumption) | exact encYT_sz (by assumption) | exact encYM_sz (by assumption)) (Xt.h (by first | assumption | exact Xt.whole rfl rfl | exact Xt.whole rfl (by assumption) | exact Xt.whole rfl (by simp only [size_ic, Value.cells]; omega) | exact ⟨rfl⟩)) ?_
        first | refine WO_storeW Hvac.sizeOf44 rfl (v := .agg _) rfl (Hb.h (by repeat (first | assumption | exact Hb.newY _ _ | refine Hb.alloc ?_ | refine Hb.drew ?_ | refine Hb.ext (by assumption) ?_ | exact Hb.setSameL (by first | omega | (simp only [size_alloc, size_setB, size_drew]; omega)) | exact Hb.setSame (by assumption) | refine Hb.set (by first | omega | (simp only [size_alloc, size_setB, size_drew]; omega)) ?_ ))) rfl (by first | omega | assumption | rfl | decide | exact Nat.le_refl _ | (simp only [size_ic, Value.cells]; omega) | (simp [encWs]; done) | (simp; omega) | simp | exact encYA_sz (by assumption) | exact encYT_sz (by assumption) | exact encYM_sz (by assumption)) (by first | omega | assumption | rfl | decide | exact Nat.le_refl _ | (simp only [size_ic, Value.cells]; omega) | (simp [encWs]; done) | (simp; omega) | simp | exact encYA_sz (by assumption) | exact encYT_sz (by assumption) | exact encYM_sz (by assumption)) (by first | exact oneCell_ic | assumption | exact one_Ws2 _ | exact one_YA2 _ | exact one_YSl2 _ | exact one_YM2 _ | exact one_YT2 _ | exact one_L2 _) ?_ | refine WO_store Hvac.sizeOf44 rfl (v := .agg _) rfl (Hb.h (by repeat (first | assumption | exact Hb.newY _ _ | refine Hb.alloc ?_ | refine Hb.drew ?_ | refine Hb.ext (by assumption) ?_ | exact Hb.setSameL (by first | omega | (simp only [size_alloc, size_setB, size_drew]; omega)) | exact Hb.setSame (by assumption) | refine Hb.set (by first | omega | (simp only [size_alloc, size_setB, size_drew]; omega)) ?_ ))) (by first | omega | assumption | rfl | decide | exact Nat.le_refl _ | (simp only [size_ic, Value.cells]; omega) | (simp [encWs]; done) | (simp; omega) | simp | exact encYA_sz (by assumption) | exact encYT_sz (by assumption) | exact encYM_sz (by assumption)) (by first | omega | assumption | rfl | decide | exact Nat.le_refl _ | (simp only [size_ic, Value.cells]; omega) | (simp [encWs]; done) | (simp; omega) | simp | exact encYA_sz (by assumption) | exact encYT_sz (by assumption) | exact encYM_sz (by assumption)) (by first | exact oneCell_ic | assumption | exact one_Ws2 _ | exact one_YA2 _ | exact one_YSl2 _ | exact one_YM2 _ | exact one_YT2 _ | exact one_L2 _) ?_
        refine WO_nil ?_
        refine thn_normal ?_
        refine W_ret ?_
        refine thn_ret ?_
        refine bodyQ_cell1 Hvac.results36 rfl Hvac.isAgg44 Hvac.sizeOf44 rfl (Hb.h (by repeat (first | assumption | exact Hb.newY _ _ | refine Hb.alloc ?_ | refine Hb.drew ?_ | refine Hb.ext (by assumption) ?_ | exact Hb.setSameL (by first | omega | (simp only [size_alloc, size_setB, size_drew]; omega)) | exact Hb.setSame (by assumption) | refine Hb.set (by first | omega | (simp only [size_alloc, size_setB, size_drew]; omega)) ?_ ))) (by first | omega | assumption | rfl | decide | exact Nat.le_refl _ | (simp only [size_ic, Value.cells]; omega) | (simp [encWs]; done) | (simp; omega) | simp | exact encYA_sz (by assumption) | exact encYT_sz (by assumption) | exact encYM_sz (by assumption)) ?_
        exact ⟨(by repeat (first | assumption | exact Ext.refl _ | refine Ext.alloc ?_ _ | refine Ext.drew ?_ | refine Ext.setB ?_ (by first | omega | (simp only [size_alloc, size_setB, size_drew]; omega)) _ | exact Ext.trans (by assumption) (by assumption) | refine Ext.trans ?_ (by assumption))), (none, 0, 0), s9, s10, rfl, by rw [hsp0]; exact PL.nil _ _ _ _, (hP9.ext hE8d).b44 (hb28.ext hE8d), (hP10.ext hE8d).b44 (hb28.ext hE8d)⟩
      · have hb20p := hb20.h; try simp only [al_ete, al_dfn, Bool.not_eq_true', Bool.not_eq_false', al_ne, Bool.not_not, al_nn] at hb20p
        refine WH_guardT rfl rfl hb20.h ?_
        refine WH_p (PS_move_ptr rfl) rfl ?_
        refine WH_guardT rfl rfl hb20.h ?_
        refine WH_p (PS_nilCheck rfl) rfl ?_
        refine WH_guardT rfl rfl hb20.h ?_
        refine WH_p (PS_fieldAddr 5 Hvac.runUnderlying66 rfl Hvac.sizeOf42 rfl rfl) rfl ?_
        refine WH_guardT rfl rfl hb20.h ?_
        refine WH_load (.int _ _) Hvac.isAgg42 rfl (Hb.h (by repeat (first | assumption | exact Hb.newY _ _ | refine Hb.alloc ?_ | refine Hb.drew ?_ | refine Hb.ext (by assumption) ?_ | exact Hb.setSameL (by first | omega | (simp only [size_alloc, size_setB, size_drew]; omega)) | exact Hb.setSame (by assumption) | refine Hb.set (by first | omega | (simp only [size_alloc, size_setB, size_drew]; omega)) ?_ ))) (Ce.h (by first | assumption | exact ⟨rfl⟩)) ?_
        refine WH_guardT rfl rfl hb20.h ?_
        refine WH_p (PS_conv_i64n Hvac.runUnderlying42 Hvac.runUnderlying3 rfl (by omega) (by omega)) rfl ?_
        refine WH_guardT rfl rfl hb20.h ?_
        refine WH_p (PS_move_ptr rfl) rfl ?_
        refine WH_guardT rfl rfl hb20.h ?_
        refine WH_p (PS_nilCheck rfl) rfl ?_
        refine WH_guardT rfl rfl hb20.h ?_
        refine WH_p (PS_fieldAddr 6 Hvac.runUnderlying66 rfl Hvac.sizeOf42 rfl rfl) rfl ?_
        refine WH_guardT rfl rfl hb20.h ?_
        refine WH_load (.int _ _) Hvac.isAgg42 rfl (Hb.h (by repeat (first | assumption | exact Hb.newY _ _ | refine Hb.alloc ?_ | refine Hb.drew ?_ | refine Hb.ext (by assumption) ?_ | exact Hb.setSameL (by first | omega | (simp only [size_alloc, size_setB, size_drew]; omega)) | exact Hb.setSame (by assumption) | refine Hb.set (by first | omega | (simp only [size_alloc, size_setB, size_drew]; omega)) ?_ ))) (Ce.h (by first | assumption | exact ⟨rfl⟩)) ?_
        refine WH_guardT rfl rfl hb20.h ?_
        refine WH_p (PS_conv_i64n Hvac.runUnderlying42 Hvac.runUnderlying3 rfl (by omega) (by omega)) rfl ?_
        refine WH_guardT rfl rfl hb20.h ?_
        refine WH_p (PS_add_i64n rfl rfl (by omega) (by omega)) rfl ?_
        refine WH_guardT rfl rfl hb20.h ?_
        refine WH_p (PS_gtr rfl rfl) rfl ?_
        refine WH_p (PS_pickF rfl hb20.h rfl) rfl ?_
        refine WH_nil ?_
        refine thn_normal ?_
        refine W_if rfl (fun hb22 => ?_) (fun hb22 => ?_)
        · have hb22p := hb22.h; try simp only [al_ete, al_dfn, Bool.not_eq_true', Bool.not_eq_false', al_ne, Bool.not_not, al_nn] at hb22p
          exfalso; omega --END
        · have hb22p := hb22.h; try simp only [al_ete, al_dfn, Bool.not_eq_true', Bool.not_eq_false', al_ne, Bool.not_not, al_nn] at hb22p
          refine W_skip ?_
          refine thn_normal ?_
          refine W_seq ?_
          refine W_region rfl ?_
          refine WO_p (PS_move_ptr rfl) ?_
          refine WO_p (PS_nilCheck rfl) ?_
          refine WO_p (PS_fieldAddr 6 Hvac.runUnderlying66 rfl Hvac.sizeOf42 rfl rfl) ?_
          refine WO_load (.int _ _) Hvac.isAgg42 rfl (Hb.h (by repeat (first | assumption | exact Hb.newY _ _ | refine Hb.alloc ?_ | refine Hb.drew ?_ | refine Hb.ext (by assumption) ?_ | exact Hb.setSameL (by first | omega | (simp only [size_alloc, size_setB, size_drew]; omega)) | exact Hb.setSame (by assumption) | refine Hb.set (by first | omega | (simp only [size_alloc, size_setB, size_drew]; omega)) ?_ ))) (Ce.h (by first | assumption | exact ⟨rfl⟩)) ?_
          refine WO_make (z := .agg (ic .u8 (List.replicate 32 0))) Hvac.underlying29 info28 rfl rfl rfl (by omega) (by omega) (by show ((32 : Nat) : Int) * _ ≤ _; omega) (by omega) ?_
          refine WO_p (PS_fieldAddr 46 Hvac.runUnderlying44 rfl Hvac.sizeOf29 rfl rfl) ?_
          refine WO_store1 Hvac.sizeOf29 rfl (v := (.slice _ _ _)) rfl (Hb.h (by repeat (first | assumption | exact Hb.newY _ _ | refine Hb.alloc ?_ | refine Hb.drew ?_ | refine Hb.ext (by assumption) ?_ | exact Hb.setSameL (by first | omega | (simp only [size_alloc, size_setB, size_drew]; omega)) | exact Hb.setSame (by assumption) | refine Hb.set (by first | omega | (simp only [size_alloc, size_setB, size_drew]; omega)) ?_ ))) rfl (by first | omega | assumption | rfl | decide | exact Nat.le_refl _ | (simp only [size_ic, Value.cells]; omega) | (simp [encWs]; done) | (simp; omega) | simp | exact encYA_sz (by assumption) | exact encYT_sz (by assumption) | exact encYM_sz (by assumption)) rfl ?_
          refine WO_nil ?_
          refine thn_normal ?_
          refine W_seq ?_
          refine W_seq ?_
          rw [encVw_st (v := ⟨false, f.static, (t : Int), f.pc, f.gas, v.ref, f.self, f.caller, (none, 0, 0), s9, s10, (v.logs.length : Int)⟩) hsfl hcal]
          have hk46m := encVw_8 (v := ⟨false, f.static, (t : Int), f.pc, f.gas, v.ref, f.self, f.caller, (some ⟨w8.drew.heap.size, 0, none⟩, f.sp.toNat, f.sp.toNat), s9, s10, (v.logs.length : Int)⟩) hsfl hcal
          dsimp only at hk46m
          refine W_region rfl ?_
          refine WO_p (PS_fieldAddr 46 Hvac.runUnderlying44 rfl Hvac.sizeOf29 rfl rfl) ?_
          refine WO_load (.slice _ _ _) Hvac.isAgg29 rfl (Hb.h (by repeat (first | assumption | exact Hb.newY _ _ | refine Hb.alloc ?_ | refine Hb.drew ?_ | refine Hb.ext (by assumption) ?_ | exact Hb.setSameL (by first | omega | (simp only [size_alloc, size_setB, size_drew]; omega)) | exact Hb.setSame (by assumption) | refine Hb.set (by first | omega | (simp only [size_alloc, size_setB, size_drew]; omega)) ?_ ))) (Ce.h (by first | assumption | exact ⟨rfl⟩)) ?_
          refine WO_p (PS_lenS Hvac.runUnderlying29 rfl) ?_
          refine WO_p (PS_move_int rfl) ?_
          refine WO_nil ?_
          refine thn_normal ?_
          refine W_block ?_
          refine W_loopN (fun k ρ w' => ∃ (i : Nat) (pF : Option Addr) (K : List (List Int)), i + k = f.sp.toNat ∧ K = ((List.range i).map fun j => be32 (m.stack.getD (64 * t + j) [0, 0, 0, 0])) ∧ FL encW32 32 28 w8 [] w' (pF, f.sp.toNat, f.sp.toNat) f.sp.toNat K ∧ Hb w' b5 (.cells (encVw ⟨false, f.static, (t : Int), f.pc, f.gas, v.ref, f.self, f.caller, (pF, f.sp.toNat, f.sp.toNat), s9, s10, (v.logs.length : Int)⟩).toArray 44 (0, 0)) ∧ KeepO (fun b => b = b5) w8 w' ∧ Fr [(0, .pointer (some ⟨C, 0, none⟩)), (2, .pointer (some ⟨b2, 0, none⟩)), (3, .pointer (some ⟨C, 1803 + t * 65, none⟩)), (5, .pointer (some ⟨b5, 0, none⟩)), (137, .int .i64 f.sp.toNat), (138, .int .i64 i)] ρ) f.sp.toNat ?_ ?_
          · refine ⟨0, some ⟨_, 0, none⟩, [], by omega, rfl, (FL.made (w0 := w8) (X := []) (w := w8.drew.alloc _) (Hb.newY w8.drew _) (size_madeCells _ _) hE8d.1 (by simp)).set (Or.inr (by omega)) _, ?_, KeepO.setB (O := fun b => b = b5) (Ext.keepO (Ext.alloc hE8d _) _) (fun _ => rfl) _, ⟨rfl, rfl, rfl, rfl, rfl, rfl, trivial⟩⟩
            exact Hb.setSame (Hb.alloc (Hb.drew hb58))
          intro kL ρL wL hIL
          obtain ⟨i, pF, K, hik, hKe, hFL, hb5L, hKL, hFrL⟩ := hIL
          refine W_env _ hFrL ?_
          have hzL := hKL.sz
          have hb5Ll := hb5L.lt
          have hKi : K.length = i := by rw [hKe]; simp
          have hEwL : Ext w wL := ext_keep hE8 hKL (fun b e => by omega)
          have hblkL := hblk.ext hEwL
          have honeL := one_Vw ⟨false, f.static, (t : Int), f.pc, f.gas, v.ref, f.self, f.caller, (pF, f.sp.toNat, f.sp.toNat), s9, s10, (v.logs.length : Int)⟩
          have hszL : (encVw ⟨false, f.static, (t : Int), f.pc, f.gas, v.ref, f.self, f.caller, (pF, f.sp.toNat, f.sp.toNat), s9, s10, (v.logs.length : Int)⟩).toArray.size = 50 := encVw_sz hsfl hcal
          have hk46 : Ce (encVw ⟨false, f.static, (t : Int), f.pc, f.gas, v.ref, f.self, f.caller, (pF, f.sp.toNat, f.sp.toNat), s9, s10, (v.logs.length : Int)⟩).toArray (0 + 46) (.slice pF f.sp.toNat f.sp.toNat) := encVw_8 (v := ⟨false, f.static, (t : Int), f.pc, f.gas, v.ref, f.self, f.caller, (pF, f.sp.toNat, f.sp.toNat), s9, s10, (v.logs.length : Int)⟩) hsfl hcal
          refine W_seq ?_
          refine W_region rfl ?_
          refine WO_p (PS_lss rfl rfl) ?_
          refine WO_nil ?_
          refine thn_normal ?_
          refine W_seq ?_
          refine W_if rfl (fun hb24 => ?_) (fun hb24 => ?_)
          · have hb24p := hb24.h; try simp only [al_ete, al_dfn, Bool.not_eq_true', Bool.not_eq_false', al_ne, Bool.not_not, al_nn] at hb24p
            obtain ⟨bF, rF, hsF, hbF0, hbFX, hbF, hrF, hRF⟩ := hFL.row (by omega)
            dsimp only at hsF
            subst hsF
            have hbFl := hbF.lt
            have hFb : 0 + i * 32 + 32 ≤ rF.size := by rw [hrF]; have := Nat.mul_le_mul_right 32 (show i + 1 ≤ f.sp.toNat by omega); omega
            have hilt : 64 * t + i < m.stack.length := by rw [hM.ty.stack.1]; omega
            obtain ⟨W, hW⟩ : ∃ W, m.stack[64 * t + i]? = some W := ⟨_, List.getElem?_eq_getElem hilt⟩
            have hWt := hM.ty.stack.2 W (List.mem_of_getElem? hW)
            have hXW := (hM.openW hW).1
            have hWl := hWt.1
            have hbw := be32_by W
            have hixe : (f.sbase + (i : Int)).toNat = 64 * t + i := by omega
            refine W_skip ?_
            refine thn_normal ?_
            refine W_seq ?_
            refine W_block ?_
            refine W_seq ?_
            refine W_region rfl ?_
            refine WO_p (PS_move_int rfl) ?_
            refine WO_p (PS_assign_int rfl) ?_
            refine WO_nil ?_
            refine thn_normal ?_
            refine W_drawE [false, false, false, false, false, false, false, false, false, false, false, false, false, false, false, true, false, false] hmix (by kernel_rfl) rfl ?_
            refine WH_p (PS_fieldAddr 46 Hvac.runUnderlying44 rfl Hvac.sizeOf29 rfl rfl) rfl ?_
            refine WH_load (.slice _ _ _) Hvac.isAgg29 rfl (Hb.h (by repeat (first | assumption | exact Hb.newY _ _ | refine Hb.alloc ?_ | refine Hb.drew ?_ | refine Hb.ext (by assumption) ?_ | exact Hb.setSameL (by first | omega | (simp only [size_alloc, size_setB, size_drew]; omega)) | exact Hb.setSame (by assumption) | refine Hb.set (by first | omega | (simp only [size_alloc, size_setB, size_drew]; omega)) ?_ ))) (Ce.h (by first | assumption | exact ⟨rfl⟩)) ?_
            refine WH_p (PS_move_int rfl) rfl ?_
            refine WH_p (PS_move_ptr rfl) rfl ?_
            refine WH_p (PS_move_ptr rfl) rfl ?_
            refine WH_p (PS_nilCheck rfl) rfl ?_
            refine WH_p (PS_fieldAddr 5 Hvac.runUnderlying66 rfl Hvac.sizeOf42 rfl rfl) rfl ?_
            refine WH_load (.int _ _) Hvac.isAgg42 rfl (Hb.h (by repeat (first | assumption | exact Hb.newY _ _ | refine Hb.alloc ?_ | refine Hb.drew ?_ | refine Hb.ext (by assumption) ?_ | exact Hb.setSameL (by first | omega | (simp only [size_alloc, size_setB, size_drew]; omega)) | exact Hb.setSame (by assumption) | refine Hb.set (by first | omega | (simp only [size_alloc, size_setB, size_drew]; omega)) ?_ ))) (Ce.h (by first | assumption | exact ⟨rfl⟩)) ?_
            refine WH_p (PS_conv_i64n Hvac.runUnderlying42 Hvac.runUnderlying3 rfl (by omega) (by omega)) rfl ?_
            refine WH_p (PS_move_int rfl) rfl ?_
            refine WH_p (PS_add_i64n rfl rfl (by omega) (by omega)) rfl ?_
            refine WH_p (PS_nilCheck rfl) rfl ?_
            refine WH_p (PS_fieldAddr 11 Hvac.runUnderlying70 rfl Hvac.sizeOf62 rfl rfl) rfl ?_
            refine WH_p (PS_indexA Hvac.runUnderlying62 Hvac.sizeOf61 rfl rfl (by omega) (by omega)) rfl ?_
            rw [hixe]
            refine WH_loadA _ Hvac.isAgg61 Hvac.sizeOf61 rfl (Hb.h (by repeat (first | assumption | exact Hb.newY _ _ | refine Hb.alloc ?_ | refine Hb.drew ?_ | refine Hb.ext (by assumption) ?_ | exact Hb.setSameL (by first | omega | (simp only [size_alloc, size_setB, size_drew]; omega)) | exact Hb.setSame (by assumption) | refine Hb.set (by first | omega | (simp only [size_alloc, size_setB, size_drew]; omega)) ?_ ))) (by first | omega | assumption | rfl | decide | exact Nat.le_refl _ | (simp only [size_ic, Value.cells]; omega) | (simp [encWs]; done) | (simp; omega) | simp | exact encYA_sz (by assumption) | exact encYT_sz (by assumption) | exact encYM_sz (by assumption)) (Xt.h (by first | assumption | exact Xt.whole rfl rfl | exact Xt.whole rfl (by assumption) | exact Xt.whole rfl (by simp only [size_ic, Value.cells]; omega) | exact ⟨rfl⟩)) ?_
            refine WH_call Hvac.call100 (by rfl) (Ret.mono (be32_spec W _ hWt) ?_)
            rintro _ w100_24 ⟨hE100_24, rfl⟩
            refine ⟨fun _ => (by repeat (first | assumption | exact Ext.refl _ | refine Ext.alloc ?_ _ | refine Ext.drew ?_ | refine Ext.setB ?_ (by first | omega | (simp only [size_alloc, size_setB, size_drew]; omega)) _ | exact Ext.trans (by assumption) (by assumption) | refine Ext.trans ?_ (by assumption))), ?_⟩
            have hz100_24 := hE100_24.1
            try simp only [size_alloc, size_setB, size_drew] at hz100_24
            have hELD : Ext wL w100_24 := (by repeat (first | assumption | exact Ext.refl _ | refine Ext.alloc ?_ _ | refine Ext.drew ?_ | refine Ext.setB ?_ (by first | omega | (simp only [size_alloc, size_setB, size_drew]; omega)) _ | exact Ext.trans (by assumption) (by assumption) | refine Ext.trans ?_ (by assumption)))
            refine WH_p (PS_indexS Hvac.runUnderlying29 Hvac.sizeOf28 rfl rfl (by omega) (by omega)) rfl ?_
            first | refine WH_storeW Hvac.sizeOf28 rfl (v := .agg _) rfl (Hb.h (by repeat (first | assumption | exact Hb.newY _ _ | refine Hb.alloc ?_ | refine Hb.drew ?_ | refine Hb.ext (by assumption) ?_ | exact Hb.setSameL (by first | omega | (simp only [size_alloc, size_setB, size_drew]; omega)) | exact Hb.setSame (by assumption) | refine Hb.set (by first | omega | (simp only [size_alloc, size_setB, size_drew]; omega)) ?_ ))) rfl (by first | omega | assumption | rfl | decide | exact Nat.le_refl _ | (simp only [size_ic, Value.cells]; omega) | (simp [encWs]; done) | (simp; omega) | simp | exact encYA_sz (by assumption) | exact encYT_sz (by assumption) | exact encYM_sz (by assumption)) (by first | omega | assumption | rfl | decide | exact Nat.le_refl _ | (simp only [size_ic, Value.cells]; omega) | (simp [encWs]; done) | (simp; omega) | simp | exact encYA_sz (by assumption) | exact encYT_sz (by assumption) | exact encYM_sz (by assumption)) (by first | exact oneCell_ic | assumption | exact one_Ws2 _ | exact one_YA2 _ | exact one_YSl2 _ | exact one_YM2 _ | exact one_YT2 _ | exact one_L2 _) (fun h => by cases h) ?_ | refine WH_store Hvac.sizeOf28 rfl (v := .agg _) rfl (Hb.h (by repeat (first | assumption | exact Hb.newY _ _ | refine Hb.alloc ?_ | refine Hb.drew ?_ | refine Hb.ext (by assumption) ?_ | exact Hb.setSameL (by first | omega | (simp only [size_alloc, size_setB, size_drew]; omega)) | exact Hb.setSame (by assumption) | refine Hb.set (by first | omega | (simp only [size_alloc, size_setB, size_drew]; omega)) ?_ ))) (by first | omega | assumption | rfl | decide | exact Nat.le_refl _ | (simp only [size_ic, Value.cells]; omega) | (simp [encWs]; done) | (simp; omega) | simp | exact encYA_sz (by assumption) | exact encYT_sz (by assumption) | exact encYM_sz (by assumption)) (by first | omega | assumption | rfl | decide | exact Nat.le_refl _ | (simp only [size_ic, Value.cells]; omega) | (simp [encWs]; done) | (simp; omega) | simp | exact encYA_sz (by assumption) | exact encYT_sz (by assumption) | exact encYM_sz (by assumption)) (by first | exact oneCell_ic | assumption | exact one_Ws2 _ | exact one_YA2 _ | exact one_YSl2 _ | exact one_YM2 _ | exact one_YT2 _ | exact one_L2 _) (fun h => by cases h) ?_
            refine WH_nil ?_
            refine inBlk_normal ?_
            refine thn_normal ?_
            refine W_region rfl ?_
            refine WO_p (PS_add_i64n rfl rfl (by omega) (by omega)) ?_
            refine WO_p (PS_move_int rfl) ?_
            refine WO_nil ?_
            refine thn_normal ?_
            exact ⟨kL - 1, by omega, i + 1, some ⟨bF, 0, none⟩, K ++ [be32 W], by omega, by rw [hKe, List.range_succ, List.map_append, List.map_singleton, List.getD_eq_getElem?_getD, hW]; rfl, (hFL.ext hELD).put hKi (by omega) (hbF.ext hELD) (by simp [encW32, hbw.1]) (by simp [Value.cells, encW32, ic]), Hb.set (by omega) (hb5L.ext hELD), KeepO.setB (hKL.extR hELD) (fun h => absurd h (by omega)) _, ⟨rfl, rfl, rfl, rfl, rfl, congrArg (Value.int .i64) (by omega), trivial⟩⟩
          · have hb24p := hb24.h; try simp only [al_ete, al_dfn, Bool.not_eq_true', Bool.not_eq_false', al_ne, Bool.not_not, al_nn] at hb24p
            have hb2L : Hb wL b2 (.cells (encVw vw0).toArray 44 (0, 0)) := hb28.keepO hKL (fun e => absurd e hne25)
            have hb2Ll := hb2L.lt
            have hii : i = f.sp.toNat := by omega
            subst hii
            have hPLL := hFL.pl (hO.ext hE8) hKi
            have hP9L : MB wL s9 ((L.drop lo).take n) := hP9.kt (fun b r fz hb => hb.keepO hKL fun e => absurd (Hb.type_eq hb (e ▸ hb58)) (by decide))
            have hP10L : MB wL s10 (rdB w m.ret) := hP10.kt (fun b r fz hb => hb.keepO hKL fun e => absurd (Hb.type_eq hb (e ▸ hb58)) (by decide))
            rw [hKe] at hPLL
            refine W_exit ?_
            refine thn_exit ?_
            refine thn_exit ?_
            refine inBlk_exit ?_
            refine thn_normal ?_
            refine W_seq ?_
            refine W_region rfl ?_
            refine WO_loadA _ Hvac.isAgg44 Hvac.sizeOf44 rfl (Hb.h (by repeat (first | assumption | exact Hb.newY _ _ | refine Hb.alloc ?_ | refine Hb.drew ?_ | refine Hb.ext (by assumption) ?_ | exact Hb.setSameL (by first | omega | (simp only [size_alloc, size_setB, size_drew]; omega)) | exact Hb.setSame (by assumption) | refine Hb.set (by first | omega | (simp only [size_alloc, size_setB, size_drew]; omega)) ?_ ))) (by first | omega | assumption | rfl | decide | exact Nat.le_refl _ | (simp only [size_ic, Value.cells]; omega) | (simp [encWs]; done) | (simp; omega) | simp | exact encYA_sz (by assumption) | exact encYT_sz (by assumption) | exact encYM_sz (by assumption)) (Xt.h (by first | assumption | exact Xt.whole rfl rfl | exact Xt.whole rfl (by assumption) | exact Xt.whole rfl (by simp only [size_ic, Value.cells]; omega) | exact ⟨rfl⟩)) ?_
            first | refine WO_storeW Hvac.sizeOf44 rfl (v := .agg _) rfl (Hb.h (by repeat (first | assumption | exact Hb.newY _ _ | refine Hb.alloc ?_ | refine Hb.drew ?_ | refine Hb.ext (by assumption) ?_ | exact Hb.setSameL (by first | omega | (simp only [size_alloc, size_setB, size_drew]; omega)) | exact Hb.setSame (by assumption) | refine Hb.set (by first | omega | (simp only [size_alloc, size_setB, size_drew]; omega)) ?_ ))) rfl (by first | omega | assumption | rfl | decide | exact Nat.le_refl _ | (simp only [size_ic, Value.cells]; omega) | (simp [encWs]; done) | (simp; omega) | simp | exact encYA_sz (by assumption) | exact encYT_sz (by assumption) | exact encYM_sz (by assumption)) (by first | omega | assumption | rfl | decide | exact Nat.le_refl _ | (simp only [size_ic, Value.cells]; omega) | (simp [encWs]; done) | (simp; omega) | simp | exact encYA_sz (by assumption) | exact encYT_sz (by assumption) | exact encYM_sz (by assumption)) (by first | exact oneCell_ic | assumption | exact one_Ws2 _ | exact one_YA2 _ | exact one_YSl2 _ | exact one_YM2 _ | exact one_YT2 _ | exact one_L2 _) ?_ | refine WO_store Hvac.sizeOf44 rfl (v := .agg _) rfl (Hb.h (by repeat (first | assumption | exact Hb.newY _ _ | refine Hb.alloc ?_ | refine Hb.drew ?_ | refine Hb.ext (by assumption) ?_ | exact Hb.setSameL (by first | omega | (simp only [size_alloc, size_setB, size_drew]; omega)) | exact Hb.setSame (by assumption) | refine Hb.set (by first | omega | (simp only [size_alloc, size_setB, size_drew]; omega)) ?_ ))) (by first | omega | assumption | rfl | decide | exact Nat.le_refl _ | (simp only [size_ic, Value.cells]; omega) | (simp [encWs]; done) | (simp; omega) | simp | exact encYA_sz (by assumption) | exact encYT_sz (by assumption) | exact encYM_sz (by assumption)) (by first | omega | assumption | rfl | decide | exact Nat.le_refl _ | (simp only [size_ic, Value.cells]; omega) | (simp [encWs]; done) | (simp; omega) | simp | exact encYA_sz (by assumption) | exact encYT_sz (by assumption) | exact encYM_sz (by assumption)) (by first | exact oneCell_ic | assumption | exact one_Ws2 _ | exact one_YA2 _ | exact one_YSl2 _ | exact one_YM2 _ | exact one_YT2 _ | exact one_L2 _) ?_
            refine WO_nil ?_
            refine thn_normal ?_
            refine W_ret ?_
            refine bodyQ_cell1 Hvac.results36 rfl Hvac.isAgg44 Hvac.sizeOf44 rfl (Hb.h (by repeat (first | assumption | exact Hb.newY _ _ | refine Hb.alloc ?_ | refine Hb.drew ?_ | refine Hb.ext (by assumption) ?_ | exact Hb.setSameL (by first | omega | (simp only [size_alloc, size_setB, size_drew]; omega)) | exact Hb.setSame (by assumption) | refine Hb.set (by first | omega | (simp only [size_alloc, size_setB, size_drew]; omega)) ?_ ))) (by first | omega | assumption | rfl | decide | exact Nat.le_refl _ | (simp only [size_ic, Value.cells]; omega) | (simp [encWs]; done) | (simp; omega) | simp | exact encYA_sz (by assumption) | exact encYT_sz (by assumption) | exact encYM_sz (by assumption)) ?_
            exact ⟨Ext.setB hEwL (by omega) _, (pF, f.sp.toNat, f.sp.toNat), s9, s10, rfl, hPLL.kt (KT.setB hb2L (by decide)), hP9L.kt (KT.setB hb2L (by decide)), hP10L.kt (KT.setB hb2L (by decide))⟩

end Go.Proofs.YgvacwGreat
