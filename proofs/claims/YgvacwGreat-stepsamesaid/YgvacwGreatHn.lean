import Derived.Test.YgvacwGreatHm
namespace Go.Proofs.YgvacwGreat
set_option linter.unusedSimpArgs false
set_option linter.unusedVariables false
def yvst (y : PSt) (f : PF) (o : Int) (l : List Nat) : PSt :=
  if o = 49 ∨ o = 59 ∨ o = 63 then ysWarmA y (ywith y.now.warmA (yaddr (l.getD 0 0))) else if o = 84 then ysWarmS y (ymk y.now.warmS f.self (l.getD 0 0)) else y
def yval (ks : List Int → List Int) (y : PSt) (f : PF) (o : Int) (l : List Nat) : Nat :=
  if o = 32 then bvY (ks (ycut f.mem (l.getD 0 0) (l.getD 1 0)))
  else if o = 48 then bvY f.self else if o = 49 ∨ o = 59 ∨ o = 63 then yacval ks (yacct y.now.accts (yaddr (l.getD 0 0))) o
  else if o = 50 then bvY y.origin else if o = 51 then bvY f.caller else if o = 52 then f.value else if o = 53 then bvY (ycut f.inputY (l.getD 0 0) 32)
  else if o = 54 then f.inputY.length else if o = 56 then f.code.length else if o = 58 then y.price else if o = 61 then y.ret.length
  else if (64 ≤ o ∧ o ≤ 70) ∨ o = 72 then yblock y.env y.hashes o (l.getD 0 0)
  else if o = 71 then (yacct y.now.accts f.self).bal else if o = 81 then bvY (ycut f.mem (l.getD 0 0) 32) else if o = 84 then yload y.now.accts f.self (l.getD 0 0)
  else if o = 92 then ytl y.now.temps f.self (l.getD 0 0) else if o = 88 then f.pc else if o = 89 then f.mem.length else if o = 90 then f.gas
  else if 95 ≤ o ∧ o ≤ 127 then bvY (ycut f.code (f.pc + 1) (immOf o).toNat)
  else yalu o (l.getD 0 0) (l.getD 1 0) (l.getD 2 0)
theorem yfam_1 {o : Int} (h : 0 ≤ o ∧ o ≤ 255) : yfam o = 1 ↔ ((1 ≤ o ∧ o ≤ 11) ∨ (16 ≤ o ∧ o ≤ 29) ∨ o = 32) := by
  unfold yfam
  constructor
  · intro h9
    repeat (first | omega | (split at h9 <;> first | omega | skip))
  · intro h9
    rw [if_neg (by omega), if_pos h9]

set_option maxRecDepth 10000 in
set_option maxHeartbeats 4000000 in
theorem yValue_spec [Om] (w : World) (hO : OmB w) (Y : Nat → Prop) (C : Nat) (x : YSt) (y : PSt) (xs : List YFr) (rest : List PF) (f : PF) (N : Nat) (hX : YX Y w C x y xs (rest ++ [f])) (hB : PSB N y) (hN : N ≤ 99999800) (hYB : YB y) (hP : PFB f) (hPr : ∀ g ∈ rest, PFB g ∧ sz g.gas ≤ 30) (hgf : sz f.gas ≤ 30) (hrl : rest.length ≤ 800) (F : Nat) (hFp : x.frames.1 = some ⟨F, 0, none⟩) (ks : List Int → List Int) (hK : KSum ks) (hhl : y.hashes.length ≤ 1000) (o : Int) (ho : 0 ≤ o ∧ o ≤ 255) (hof : (1 ≤ o ∧ o ≤ 11) ∨ (16 ≤ o ∧ o ≤ 29) ∨ o = 32 ∨ (48 ≤ o ∧ o ≤ 54) ∨ o = 56 ∨ o = 58 ∨ o = 59 ∨ o = 61 ∨ (63 ≤ o ∧ o ≤ 72) ∨ o = 81 ∨ o = 84 ∨ o = 88 ∨ o = 89 ∨ o = 90 ∨ o = 92 ∨ (95 ≤ o ∧ o ≤ 127)) (p : Option Addr) (n cp : Nat) (l : List Nat) (hl : StR w (p, n, cp) l) (hlz : ∀ a ∈ l, sz a ≤ 32) (hln : n ≤ 20) (hk8 : o = 32 → l.getD 1 0 ≤ 1000000) (hpz : sz f.pc ≤ 8) : Ret Hvac.prog 126 #[.pointer (some ⟨C, 0, none⟩), .pointer (some ⟨F, rest.length * 60, none⟩), .int .u8 o, .slice p n cp] w fun u w' => ∃ (s' : SV) (x' : YSt), u = .slice s'.1 s'.2.1 s'.2.2 ∧ SStep w w' C x' (yvst y f o l) ∧ x'.frames = x.frames ∧ x'.now.logs = x.now.logs ∧ NN w' s' (yval ks y f o l) := by
  have hO0 := hO
  have hSb := hX.ss.blk
  have hSS := hX.ss
  have hSo := hX.ss.om
  have hSl := hSb.lt
  obtain ⟨r, xf, hxf, hFM, hMW, hYF, hlf⟩ := hX.top hFp
  have hFR := hFM.rel
  have hFC := hFM.fc
  have hFb := hFM.blk
  have hFo := hFM.om
  have hFl := hFb.lt
  have hFsz := hFC.size
  have hFS := hFM.s0
  have hk12 := hFC.self
  rw [hFR.self] at hk12
  have hsbl := hFR.sb.1
  have hzs := encYS_size x
  have hfcap := hX.frs.cap
  have hS := hX.ss
  have hol : x.origin.length = 20 := by rw [hS.rel.origin]; exact hS.rel.ob.1
  have hml : x.made.length = 20 := by rw [hS.rel.made]; exact hS.rel.mb.1
  have hEB : EvB x.env := by rw [hS.rel.env]; exact hS.rel.evb
  have hszS := encYS_sz hol hml hEB
  have hkO := encYS_org hol
  rw [hS.rel.origin] at hkO
  have hABo : AB w (some ⟨C, 0 + 19, none⟩, 20, 20) y.origin := AB.xt hSb hkO (by omega) hS.rel.ob.1 hS.rel.ob.2
  have hABs : AB w (some ⟨F, rest.length * 60 + 12, none⟩, 20, 20) f.self := AB.xt hFb hk12 (by omega) hsbl hFR.sb.2
  have hk32 := hFC.caller
  rw [hFR.caller] at hk32
  have hABc : AB w (some ⟨F, rest.length * 60 + 32, none⟩, 20, 20) f.caller := AB.xt hFb hk32 (by omega) hFR.cb.1 hFR.cb.2
  have hk3 := hFC.pc
  have hk4 := hFC.gas
  have hk5 := hFC.value
  have hk10 := hFC.code
  have hk11 := hFC.inputY
  have hk9m := hFC.mem
  have hN3 := hFR.pc
  have hN4 := hFR.gas
  have hN5 := hFR.value
  have hz3 := hP.pc
  have hz4 := hP.gas
  have hz5 := hP.value
  have hcodep := hFR.code
  have hinp := hFR.inputY
  have hretp := hX.ss.rel.ret
  have hcl := hcodep.len
  have hil := hinp.len
  have hrlen := hretp.len
  have hcb := hP.cl
  have hib := hP.il
  have hrb := hB.rl
  have hmemab := hFR.mem.ab
  have hmll := hFR.mem.len
  have hmlb := hP.ml
  have hNp := hX.ss.rel.price
  have hzp := hB.sz4
  have hlN := hl.len
  have himb := immOf_bd o
  have hkl := fun L => (hK.by_ L).1
  dsimp only at hlN
  refine Ret_of_W Hvac.func126 rfl rfl ?_
  refine W_seq ?_
  refine W_region rfl ?_
  refine WO_p (PS_assign_slice rfl) ?_
  refine WO_nil ?_
  refine thn_normal ?_
  refine W_seq ?_
  refine W_region rfl ?_
  refine WO_p (PS_move_slice rfl) ?_
  refine WO_call Hvac.call202 (by rfl) (Ret.mono (yOperand_spec _ (OmB.ext hO (by repeat (first | assumption | exact Ext.refl _ | refine Ext.alloc ?_ _ | refine Ext.drew ?_ | refine Ext.setB ?_ (by first | omega | (simp only [size_alloc, size_setB, size_drew]; omega)) _ | exact Ext.trans (by assumption) (by assumption) | refine Ext.trans ?_ (by assumption)))) _ _ _ _ (by first | assumption | exact StR.ext (by assumption) (by repeat (first | assumption | exact Ext.refl _ | refine Ext.alloc ?_ _ | refine Ext.drew ?_ | refine Ext.setB ?_ (by first | omega | (simp only [size_alloc, size_setB, size_drew]; omega)) _ | exact Ext.trans (by assumption) (by assumption) | refine Ext.trans ?_ (by assumption)))) (by omega) 0 (by omega)) ?_)
  rintro _ w202_0 ⟨hE202_0, sa, rfl, hNsa⟩
  have hz202_0 := hE202_0.1
  try simp only [size_alloc, size_setB, size_drew] at hz202_0
  have hssa := sz_getD hlz 0
  refine WO_p (PS_assign_slice rfl) ?_
  refine WO_nil ?_
  refine thn_normal ?_
  refine W_seq ?_
  refine W_region rfl ?_
  refine WO_p (PS_move_slice rfl) ?_
  refine WO_call Hvac.call202 (by rfl) (Ret.mono (yOperand_spec _ (OmB.ext hO (by repeat (first | assumption | exact Ext.refl _ | refine Ext.alloc ?_ _ | refine Ext.drew ?_ | refine Ext.setB ?_ (by first | omega | (simp only [size_alloc, size_setB, size_drew]; omega)) _ | exact Ext.trans (by assumption) (by assumption) | refine Ext.trans ?_ (by assumption)))) _ _ _ _ (by first | assumption | exact StR.ext (by assumption) (by repeat (first | assumption | exact Ext.refl _ | refine Ext.alloc ?_ _ | refine Ext.drew ?_ | refine Ext.setB ?_ (by first | omega | (simp only [size_alloc, size_setB, size_drew]; omega)) _ | exact Ext.trans (by assumption) (by assumption) | refine Ext.trans ?_ (by assumption)))) (by omega) 1 (by omega)) ?_)
  rintro _ w202_1 ⟨hE202_1, sb, rfl, hNsb⟩
  have hz202_1 := hE202_1.1
  try simp only [size_alloc, size_setB, size_drew] at hz202_1
  have hssb := sz_getD hlz 1
  refine WO_p (PS_assign_slice rfl) ?_
  refine WO_nil ?_
  refine thn_normal ?_
  refine W_seq ?_
  refine W_block ?_
  refine W_seq ?_
  refine W_region rfl ?_
  refine WO_p (PS_move_int rfl) ?_
  refine WO_p (PS_eql rfl rfl) ?_
  refine WO_p (PS_assign_bool rfl) ?_
  refine WO_nil ?_
  refine thn_normal ?_
  refine W_if rfl (fun hb4 => ?_) (fun hb4 => ?_)
  · have hb4p := hb4.h; try simp only [al_ete, al_dfn, Bool.not_eq_true', Bool.not_eq_false', al_ne, Bool.not_not, al_nn] at hb4p
    have hc8 := hk8 (by omega)
    have ho5 : o = 32 := by omega
    refine W_seq ?_
    refine W_region rfl ?_
    refine WO_p (PS_move_ptr rfl) ?_
    refine WO_p (PS_move_slice rfl) ?_
    refine WO_p (PS_move_slice rfl) ?_
    refine WO_call Hvac.call46 (by rfl) (Ret.mono (yRead_spec _ (OmB.ext hO (by repeat (first | assumption | exact Ext.refl _ | refine Ext.alloc ?_ _ | refine Ext.drew ?_ | refine Ext.setB ?_ (by first | omega | (simp only [size_alloc, size_setB, size_drew]; omega)) _ | exact Ext.trans (by assumption) (by assumption) | refine Ext.trans ?_ (by assumption)))) _ _ _ _ (by first | assumption | exact FrS.ext (by assumption) (by repeat (first | assumption | exact Ext.refl _ | refine Ext.alloc ?_ _ | refine Ext.drew ?_ | refine Ext.setB ?_ (by first | omega | (simp only [size_alloc, size_setB, size_drew]; omega)) _ | exact Ext.trans (by assumption) (by assumption) | refine Ext.trans ?_ (by assumption)))) hP _ _ _ _ (by first | exact NN.nil _ | assumption | exact NN.ext (by assumption) (by repeat (first | assumption | exact Ext.refl _ | refine Ext.alloc ?_ _ | refine Ext.drew ?_ | refine Ext.setB ?_ (by first | omega | (simp only [size_alloc, size_setB, size_drew]; omega)) _ | exact Ext.trans (by assumption) (by assumption) | refine Ext.trans ?_ (by assumption)))) (by first | assumption | omega | (rw [sz_zero]; omega)) _ _ _ _ (by first | exact NN.nil _ | assumption | exact NN.ext (by assumption) (by repeat (first | assumption | exact Ext.refl _ | refine Ext.alloc ?_ _ | refine Ext.drew ?_ | refine Ext.setB ?_ (by first | omega | (simp only [size_alloc, size_setB, size_drew]; omega)) _ | exact Ext.trans (by assumption) (by assumption) | refine Ext.trans ?_ (by assumption)))) (by first | assumption | omega | (rw [sz_zero]; omega)) (by omega)) ?_)
    rintro _ w46_4 ⟨hE46_4, s46_4, rfl, hN46_4⟩
    have hz46_4 := hE46_4.1
    try simp only [size_alloc, size_setB, size_drew] at hz46_4
    have hl46_4 := PB.len hN46_4
    rw [ycut_len] at hl46_4
    refine WO_call Hvac.call160 (by rfl) (Ret.mono (hK.spec _ _ _ _ _ (by first | assumption | exact AB.ext (by assumption) (by repeat (first | assumption | exact Ext.refl _ | refine Ext.alloc ?_ _ | refine Ext.drew ?_ | refine Ext.setB ?_ (by first | omega | (simp only [size_alloc, size_setB, size_drew]; omega)) _ | exact Ext.trans (by assumption) (by assumption) | refine Ext.trans ?_ (by assumption))) | exact PB.ab (by assumption) | exact PB.ab (PB.ext (by assumption) (by repeat (first | assumption | exact Ext.refl _ | refine Ext.alloc ?_ _ | refine Ext.drew ?_ | refine Ext.setB ?_ (by first | omega | (simp only [size_alloc, size_setB, size_drew]; omega)) _ | exact Ext.trans (by assumption) (by assumption) | refine Ext.trans ?_ (by assumption))))) (by omega)) ?_)
    rintro _ w160_5 ⟨hE160_5, rfl⟩
    have hz160_5 := hE160_5.1
    try simp only [size_alloc, size_setB, size_drew] at hz160_5
    have hkl160_5 := (hK.by_ (ycut f.mem (l.getD 0 0) (l.getD 1 0))).1
    refine WO_allocG Hvac.zeroValue27 ?_
    intro b11 v11 hg11 hE11 hH11 hl11
    try simp only [size_alloc, size_setB, size_drew] at hg11
    have hzz11 := hE11.1
    try simp only [size_alloc, size_setB, size_drew] at hzz11
    replace hH11 : Hb v11 b11 (.cells (ic .u8 (List.replicate 32 0)) 27 (0, 0)) := hH11
    first | refine WO_storeW Hvac.sizeOf27 rfl (v := .agg _) rfl (Hb.h (by repeat (first | assumption | exact Hb.newY _ _ | refine Hb.alloc ?_ | refine Hb.drew ?_ | refine Hb.ext (by assumption) ?_ | exact Hb.setSameL (by first | omega | (simp only [size_alloc, size_setB, size_drew]; omega)) | exact Hb.setSame (by assumption) | refine Hb.set (by first | omega | (simp only [size_alloc, size_setB, size_drew]; omega)) ?_ ))) rfl (by first | omega | assumption | rfl | decide | exact Nat.le_refl _ | (simp only [size_ic, Value.cells]; omega) | (simp [encWs]; done) | (simp; omega) | simp | exact encYA_sz (by assumption) | exact encYT_sz (by assumption) | exact encYM_sz (by assumption)) (by first | omega | assumption | rfl | decide | exact Nat.le_refl _ | (simp only [size_ic, Value.cells]; omega) | (simp [encWs]; done) | (simp; omega) | simp | exact encYA_sz (by assumption) | exact encYT_sz (by assumption) | exact encYM_sz (by assumption)) (by first | exact oneCell_ic | assumption | exact one_Ws2 _ | exact one_YA2 _ | exact one_YSl2 _ | exact one_YM2 _ | exact one_YT2 _ | exact one_L2 _) ?_ | refine WO_store Hvac.sizeOf27 rfl (v := .agg _) rfl (Hb.h (by repeat (first | assumption | exact Hb.newY _ _ | refine Hb.alloc ?_ | refine Hb.drew ?_ | refine Hb.ext (by assumption) ?_ | exact Hb.setSameL (by first | omega | (simp only [size_alloc, size_setB, size_drew]; omega)) | exact Hb.setSame (by assumption) | refine Hb.set (by first | omega | (simp only [size_alloc, size_setB, size_drew]; omega)) ?_ ))) (by first | omega | assumption | rfl | decide | exact Nat.le_refl _ | (simp only [size_ic, Value.cells]; omega) | (simp [encWs]; done) | (simp; omega) | simp | exact encYA_sz (by assumption) | exact encYT_sz (by assumption) | exact encYM_sz (by assumption)) (by first | omega | assumption | rfl | decide | exact Nat.le_refl _ | (simp only [size_ic, Value.cells]; omega) | (simp [encWs]; done) | (simp; omega) | simp | exact encYA_sz (by assumption) | exact encYT_sz (by assumption) | exact encYM_sz (by assumption)) (by first | exact oneCell_ic | assumption | exact one_Ws2 _ | exact one_YA2 _ | exact one_YSl2 _ | exact one_YM2 _ | exact one_YT2 _ | exact one_L2 _) ?_
    refine WO_nil ?_
    refine thn_normal ?_
    refine W_seq ?_
    refine W_region rfl ?_
    refine WO_p (PS_slA Hvac.runUnderlying27 Hvac.sizeOf5 rfl (by omega)) ?_
    refine WO_call Hvac.call29 (by rfl) (Ret.mono (nBE_spec (OmB.ext hO (by repeat (first | assumption | exact Ext.refl _ | refine Ext.alloc ?_ _ | refine Ext.drew ?_ | refine Ext.setB ?_ (by first | omega | (simp only [size_alloc, size_setB, size_drew]; omega)) _ | exact Ext.trans (by assumption) (by assumption) | refine Ext.trans ?_ (by assumption)))) (AB.all (Hb.mk (Hb.h (by repeat (first | assumption | exact Hb.newY _ _ | refine Hb.alloc ?_ | refine Hb.drew ?_ | refine Hb.ext (by assumption) ?_ | exact Hb.setSameL (by first | omega | (simp only [size_alloc, size_setB, size_drew]; omega)) | exact Hb.setSame (by assumption) | refine Hb.set (by first | omega | (simp only [size_alloc, size_setB, size_drew]; omega)) ?_ )))) (hK.by_ _).2 (hkl _)) (by omega)) ?_)
    rintro _ w29_6 ⟨hE29_6, s29_6, rfl, hN29_6⟩
    have hz29_6 := hE29_6.1
    try simp only [size_alloc, size_setB, size_drew] at hz29_6
    refine WO_p (PS_assign_slice rfl) ?_
    refine WO_nil ?_
    refine thn_normal ?_
    refine W_ret ?_
    refine inBlk_ret ?_
    refine thn_ret ?_
    refine bodyQ_ret1 Hvac.results126 rfl (.slice _ _ _) rfl ?_
    have e8 : yvst y f o l = y := (by unfold yvst; rw [if_neg (by omega), if_neg (by omega)]); rw [e8]; subst ho5; exact ⟨(_, _, _), x, rfl, (SStep.refl hX.ss).extR (by repeat (first | assumption | exact Ext.refl _ | refine Ext.alloc ?_ _ | refine Ext.drew ?_ | refine Ext.setB ?_ (by first | omega | (simp only [size_alloc, size_setB, size_drew]; omega)) _ | refine Ext.trans ?_ (by assumption))), rfl, rfl, NN.castY (by first | exact NN.nil _ | assumption | exact NN.ext (by assumption) (by repeat (first | assumption | exact Ext.refl _ | refine Ext.alloc ?_ _ | refine Ext.drew ?_ | refine Ext.setB ?_ (by first | omega | (simp only [size_alloc, size_setB, size_drew]; omega)) _ | exact Ext.trans (by assumption) (by assumption) | refine Ext.trans ?_ (by assumption)))) (by simp [yval] <;> omega)⟩
  · have hb4p := hb4.h; try simp only [al_ete, al_dfn, Bool.not_eq_true', Bool.not_eq_false', al_ne, Bool.not_not, al_nn] at hb4p
    refine W_seq ?_
    refine W_region rfl ?_
    refine WO_p (PS_move_int rfl) ?_
    refine WO_call Hvac.call49 (by rfl) (Ret.mono (family_spec _ _ (by omega)) ?_)
    rintro _ w49_7 ⟨hE49_7, rfl⟩
    have hz49_7 := hE49_7.1
    try simp only [size_alloc, size_setB, size_drew] at hz49_7
    refine WO_p (PS_eql rfl rfl) ?_
    refine WO_p (PS_assign_bool rfl) ?_
    refine WO_nil ?_
    refine thn_normal ?_
    refine W_if rfl (fun hb10 => ?_) (fun hb10 => ?_)
    · have hb10p := hb10.h; try simp only [al_ete, al_dfn, Bool.not_eq_true', Bool.not_eq_false', al_ne, Bool.not_not, al_nn] at hb10p
      have hf1 := (yfam_1 ho).1 (by omega)
      refine W_seq ?_
      refine W_region rfl ?_
      refine WO_p (PS_move_int rfl) ?_
      refine WO_p (PS_move_slice rfl) ?_
      refine WO_p (PS_move_slice rfl) ?_
      refine WO_p (PS_move_slice rfl) ?_
      refine WO_call Hvac.call202 (by rfl) (Ret.mono (yOperand_spec _ (OmB.ext hO (by repeat (first | assumption | exact Ext.refl _ | refine Ext.alloc ?_ _ | refine Ext.drew ?_ | refine Ext.setB ?_ (by first | omega | (simp only [size_alloc, size_setB, size_drew]; omega)) _ | exact Ext.trans (by assumption) (by assumption) | refine Ext.trans ?_ (by assumption)))) _ _ _ _ (by first | assumption | exact StR.ext (by assumption) (by repeat (first | assumption | exact Ext.refl _ | refine Ext.alloc ?_ _ | refine Ext.drew ?_ | refine Ext.setB ?_ (by first | omega | (simp only [size_alloc, size_setB, size_drew]; omega)) _ | exact Ext.trans (by assumption) (by assumption) | refine Ext.trans ?_ (by assumption)))) (by omega) 2 (by omega)) ?_)
      rintro _ w202_10 ⟨hE202_10, sc, rfl, hNsc⟩
      have hz202_10 := hE202_10.1
      try simp only [size_alloc, size_setB, size_drew] at hz202_10
      have hssc := sz_getD hlz 2
      refine WO_call Hvac.call203 (by rfl) (Ret.mono (alu_spec _ (OmB.ext hO (by repeat (first | assumption | exact Ext.refl _ | refine Ext.alloc ?_ _ | refine Ext.drew ?_ | refine Ext.setB ?_ (by first | omega | (simp only [size_alloc, size_setB, size_drew]; omega)) _ | exact Ext.trans (by assumption) (by assumption) | refine Ext.trans ?_ (by assumption)))) _ _ _ _ (by first | exact NN.nil _ | assumption | exact NN.ext (by assumption) (by repeat (first | assumption | exact Ext.refl _ | refine Ext.alloc ?_ _ | refine Ext.drew ?_ | refine Ext.setB ?_ (by first | omega | (simp only [size_alloc, size_setB, size_drew]; omega)) _ | exact Ext.trans (by assumption) (by assumption) | refine Ext.trans ?_ (by assumption)))) (by first | assumption | omega | (rw [sz_zero]; omega)) _ _ _ _ (by first | exact NN.nil _ | assumption | exact NN.ext (by assumption) (by repeat (first | assumption | exact Ext.refl _ | refine Ext.alloc ?_ _ | refine Ext.drew ?_ | refine Ext.setB ?_ (by first | omega | (simp only [size_alloc, size_setB, size_drew]; omega)) _ | exact Ext.trans (by assumption) (by assumption) | refine Ext.trans ?_ (by assumption)))) (by first | assumption | omega | (rw [sz_zero]; omega)) _ _ _ _ (by first | exact NN.nil _ | assumption | exact NN.ext (by assumption) (by repeat (first | assumption | exact Ext.refl _ | refine Ext.alloc ?_ _ | refine Ext.drew ?_ | refine Ext.setB ?_ (by first | omega | (simp only [size_alloc, size_setB, size_drew]; omega)) _ | exact Ext.trans (by assumption) (by assumption) | refine Ext.trans ?_ (by assumption)))) (by first | assumption | omega | (rw [sz_zero]; omega)) _ (by omega)) ?_)
      rintro _ w203_11 ⟨hE203_11, s203_11, rfl, hN203_11⟩
      have hz203_11 := hE203_11.1
      try simp only [size_alloc, size_setB, size_drew] at hz203_11
      refine WO_p (PS_assign_slice rfl) ?_
      refine WO_nil ?_
      refine thn_normal ?_
      refine W_ret ?_
      refine inBlk_ret ?_
      refine thn_ret ?_
      refine bodyQ_ret1 Hvac.results126 rfl (.slice _ _ _) rfl ?_
      have e8 : yvst y f o l = y := (by unfold yvst; rw [if_neg (by omega), if_neg (by omega)]); rw [e8]; exact ⟨(_, _, _), x, rfl, (SStep.refl hX.ss).extR (by repeat (first | assumption | exact Ext.refl _ | refine Ext.alloc ?_ _ | refine Ext.drew ?_ | refine Ext.setB ?_ (by first | omega | (simp only [size_alloc, size_setB, size_drew]; omega)) _ | refine Ext.trans ?_ (by assumption))), rfl, rfl, NN.castY (by first | exact NN.nil _ | assumption | exact NN.ext (by assumption) (by repeat (first | assumption | exact Ext.refl _ | refine Ext.alloc ?_ _ | refine Ext.drew ?_ | refine Ext.setB ?_ (by first | omega | (simp only [size_alloc, size_setB, size_drew]; omega)) _ | exact Ext.trans (by assumption) (by assumption) | refine Ext.trans ?_ (by assumption)))) (by unfold yval; repeat (first | rw [if_pos (by omega)] | rw [if_neg (by omega)]))⟩
    · have hb10p := hb10.h; try simp only [al_ete, al_dfn, Bool.not_eq_true', Bool.not_eq_false', al_ne, Bool.not_not, al_nn] at hb10p
      have hf1 : ¬ ((1 ≤ o ∧ o ≤ 11) ∨ (16 ≤ o ∧ o ≤ 29) ∨ o = 32) := fun h9 => by have h8 := (yfam_1 ho).2 h9; omega
      refine W_seq ?_
      refine W_region rfl ?_
      refine WO_p (PS_move_int rfl) ?_
      refine WO_p (PS_geq rfl rfl) ?_
      refine WO_p (PS_move_bool rfl) ?_
      refine WO_if (t := 39) rfl (fun hb14 => ?_) (fun hb14 => ?_)
      · have hb14p := hb14.h; try simp only [al_ete, al_dfn, Bool.not_eq_true', Bool.not_eq_false', al_ne, Bool.not_not, al_nn] at hb14p
        refine WO_guardT rfl rfl hb14.h ?_
        refine WO_p (PS_move_int rfl) ?_
        refine WO_guardT rfl rfl hb14.h ?_
        refine WO_p (PS_leq rfl rfl) ?_
        refine WO_p (PS_pickT rfl hb14.h rfl) ?_
        refine WO_p (PS_assign_bool rfl) ?_
        refine WO_nil ?_
        refine thn_normal ?_
        refine W_if rfl (fun hb16 => ?_) (fun hb16 => ?_)
        · have hb16p := hb16.h; try simp only [al_ete, al_dfn, Bool.not_eq_true', Bool.not_eq_false', al_ne, Bool.not_not, al_nn] at hb16p
          refine W_seq ?_
          refine W_drawE [false, false, false, false, false, false, false, false, true, true, false, true, false, true, false, false, false] hmix (by kernel_rfl) rfl ?_
          refine WH_p (PS_move_ptr rfl) rfl ?_
          refine WH_p (PS_nilCheck rfl) rfl ?_
          refine WH_p (PS_fieldAddr 10 Hvac.runUnderlying121 rfl Hvac.sizeOf32 rfl rfl) rfl ?_
          refine WH_load (.slice _ _ _) Hvac.isAgg32 rfl (Hb.h (by repeat (first | assumption | exact Hb.newY _ _ | refine Hb.alloc ?_ | refine Hb.drew ?_ | refine Hb.ext (by assumption) ?_ | exact Hb.setSameL (by first | omega | (simp only [size_alloc, size_setB, size_drew]; omega)) | exact Hb.setSame (by assumption) | refine Hb.set (by first | omega | (simp only [size_alloc, size_setB, size_drew]; omega)) ?_ ))) (Ce.h (by first | assumption | exact ⟨rfl⟩)) ?_
          refine WH_p (PS_move_ptr rfl) rfl ?_
          refine WH_p (PS_nilCheck rfl) rfl ?_
          refine WH_p (PS_fieldAddr 3 Hvac.runUnderlying121 rfl Hvac.sizeOf92 rfl rfl) rfl ?_
          refine WH_load (.slice _ _ _) Hvac.isAgg92 rfl (Hb.h (by repeat (first | assumption | exact Hb.newY _ _ | refine Hb.alloc ?_ | refine Hb.drew ?_ | refine Hb.ext (by assumption) ?_ | exact Hb.setSameL (by first | omega | (simp only [size_alloc, size_setB, size_drew]; omega)) | exact Hb.setSame (by assumption) | refine Hb.set (by first | omega | (simp only [size_alloc, size_setB, size_drew]; omega)) ?_ ))) (Ce.h (by first | assumption | exact ⟨rfl⟩)) ?_
          refine WH_call Hvac.call19 (by rfl) (Ret.mono (nNum_spec (OmB.ext hO (by repeat (first | assumption | exact Ext.refl _ | refine Ext.alloc ?_ _ | refine Ext.drew ?_ | refine Ext.setB ?_ (by first | omega | (simp only [size_alloc, size_setB, size_drew]; omega)) _ | exact Ext.trans (by assumption) (by assumption) | refine Ext.trans ?_ (by assumption)))) ⟨by omega, by omega⟩) ?_)
          rintro _ w19_16 ⟨hE19_16, s19_16, rfl, hN19_16, hs19_16⟩
          refine ⟨fun _ => (by repeat (first | assumption | exact Ext.refl _ | refine Ext.alloc ?_ _ | refine Ext.drew ?_ | refine Ext.setB ?_ (by first | omega | (simp only [size_alloc, size_setB, size_drew]; omega)) _ | exact Ext.trans (by assumption) (by assumption) | refine Ext.trans ?_ (by assumption))), ?_⟩
          have hz19_16 := hE19_16.1
          try simp only [size_alloc, size_setB, size_drew] at hz19_16
          try simp only [Int.toNat_natCast, toNat_lit] at hN19_16 hs19_16
          try simp only [show Int.toNat 1 = 1 from rfl, show Int.toNat 32 = 32 from rfl] at hN19_16 hs19_16
          refine WH_call Hvac.call24 (by rfl) (Ret.mono (nAdd_spec (OmB.ext hO (by repeat (first | assumption | exact Ext.refl _ | refine Ext.alloc ?_ _ | refine Ext.drew ?_ | refine Ext.setB ?_ (by first | omega | (simp only [size_alloc, size_setB, size_drew]; omega)) _ | exact Ext.trans (by assumption) (by assumption) | refine Ext.trans ?_ (by assumption)))) (by first | exact NN.nil _ | assumption | exact NN.ext (by assumption) (by repeat (first | assumption | exact Ext.refl _ | refine Ext.alloc ?_ _ | refine Ext.drew ?_ | refine Ext.setB ?_ (by first | omega | (simp only [size_alloc, size_setB, size_drew]; omega)) _ | exact Ext.trans (by assumption) (by assumption) | refine Ext.trans ?_ (by assumption)))) (by first | exact NN.nil _ | assumption | exact NN.ext (by assumption) (by repeat (first | assumption | exact Ext.refl _ | refine Ext.alloc ?_ _ | refine Ext.drew ?_ | refine Ext.setB ?_ (by first | omega | (simp only [size_alloc, size_setB, size_drew]; omega)) _ | exact Ext.trans (by assumption) (by assumption) | refine Ext.trans ?_ (by assumption)))) (by first | assumption | omega | (rw [sz_zero]; omega)) (by first | assumption | omega | (rw [sz_zero]; omega))) ?_)
          rintro _ w24_17 ⟨hE24_17, s24_17, rfl, hN24_17⟩
          refine ⟨fun _ => (by repeat (first | assumption | exact Ext.refl _ | refine Ext.alloc ?_ _ | refine Ext.drew ?_ | refine Ext.setB ?_ (by first | omega | (simp only [size_alloc, size_setB, size_drew]; omega)) _ | exact Ext.trans (by assumption) (by assumption) | refine Ext.trans ?_ (by assumption))), ?_⟩
          have hz24_17 := hE24_17.1
          try simp only [size_alloc, size_setB, size_drew] at hz24_17
          have hs24_17 := hN24_17.z_add
          refine WH_p (PS_move_int rfl) rfl ?_
          refine WH_call Hvac.call125 (by rfl) (Ret.mono (imm_spec _ _ ho) ?_)
          rintro _ w125_18 ⟨hE125_18, rfl⟩
          refine ⟨fun _ => (by repeat (first | assumption | exact Ext.refl _ | refine Ext.alloc ?_ _ | refine Ext.drew ?_ | refine Ext.setB ?_ (by first | omega | (simp only [size_alloc, size_setB, size_drew]; omega)) _ | exact Ext.trans (by assumption) (by assumption) | refine Ext.trans ?_ (by assumption))), ?_⟩
          have hz125_18 := hE125_18.1
          try simp only [size_alloc, size_setB, size_drew] at hz125_18
          refine WH_p (PS_conv_u64n Hvac.runUnderlying5 Hvac.runUnderlying26 rfl (by omega) (by omega)) rfl ?_
          refine WH_call Hvac.call19 (by rfl) (Ret.mono (nNum_spec (OmB.ext hO (by repeat (first | assumption | exact Ext.refl _ | refine Ext.alloc ?_ _ | refine Ext.drew ?_ | refine Ext.setB ?_ (by first | omega | (simp only [size_alloc, size_setB, size_drew]; omega)) _ | exact Ext.trans (by assumption) (by assumption) | refine Ext.trans ?_ (by assumption)))) ⟨by omega, by omega⟩) ?_)
          rintro _ w19_19 ⟨hE19_19, s19_19, rfl, hN19_19, hs19_19⟩
          refine ⟨fun _ => (by repeat (first | assumption | exact Ext.refl _ | refine Ext.alloc ?_ _ | refine Ext.drew ?_ | refine Ext.setB ?_ (by first | omega | (simp only [size_alloc, size_setB, size_drew]; omega)) _ | exact Ext.trans (by assumption) (by assumption) | refine Ext.trans ?_ (by assumption))), ?_⟩
          have hz19_19 := hE19_19.1
          try simp only [size_alloc, size_setB, size_drew] at hz19_19
          try simp only [Int.toNat_natCast, toNat_lit] at hN19_19 hs19_19
          try simp only [show Int.toNat 1 = 1 from rfl, show Int.toNat 32 = 32 from rfl] at hN19_19 hs19_19
          refine WH_call Hvac.call120 (by rfl) (Ret.mono (yCut_spec _ (OmB.ext hO (by repeat (first | assumption | exact Ext.refl _ | refine Ext.alloc ?_ _ | refine Ext.drew ?_ | refine Ext.setB ?_ (by first | omega | (simp only [size_alloc, size_setB, size_drew]; omega)) _ | exact Ext.trans (by assumption) (by assumption) | refine Ext.trans ?_ (by assumption)))) _ _ _ _ (by first | assumption | exact AB.ext (by assumption) (by repeat (first | assumption | exact Ext.refl _ | refine Ext.alloc ?_ _ | refine Ext.drew ?_ | refine Ext.setB ?_ (by first | omega | (simp only [size_alloc, size_setB, size_drew]; omega)) _ | exact Ext.trans (by assumption) (by assumption) | refine Ext.trans ?_ (by assumption))) | exact PB.ab (by assumption) | exact PB.ab (PB.ext (by assumption) (by repeat (first | assumption | exact Ext.refl _ | refine Ext.alloc ?_ _ | refine Ext.drew ?_ | refine Ext.setB ?_ (by first | omega | (simp only [size_alloc, size_setB, size_drew]; omega)) _ | exact Ext.trans (by assumption) (by assumption) | refine Ext.trans ?_ (by assumption))))) (by omega) _ _ _ _ (by first | exact NN.nil _ | assumption | exact NN.ext (by assumption) (by repeat (first | assumption | exact Ext.refl _ | refine Ext.alloc ?_ _ | refine Ext.drew ?_ | refine Ext.setB ?_ (by first | omega | (simp only [size_alloc, size_setB, size_drew]; omega)) _ | exact Ext.trans (by assumption) (by assumption) | refine Ext.trans ?_ (by assumption)))) (by first | assumption | omega | (rw [sz_zero]; omega)) _ _ _ _ (by first | exact NN.nil _ | assumption | exact NN.ext (by assumption) (by repeat (first | assumption | exact Ext.refl _ | refine Ext.alloc ?_ _ | refine Ext.drew ?_ | refine Ext.setB ?_ (by first | omega | (simp only [size_alloc, size_setB, size_drew]; omega)) _ | exact Ext.trans (by assumption) (by assumption) | refine Ext.trans ?_ (by assumption)))) (by first | assumption | omega | (rw [sz_zero]; omega)) (by omega)) ?_)
          rintro _ w120_20 ⟨hE120_20, s120_20, rfl, hN120_20⟩
          refine ⟨(fun h => by cases h), ?_⟩
          have hz120_20 := hE120_20.1
          try simp only [size_alloc, size_setB, size_drew] at hz120_20
          have hl120_20 := PB.len hN120_20
          rw [ycut_len] at hl120_20
          refine WH_call Hvac.call29 (by rfl) (Ret.mono (nBE_spec (OmB.ext hO (by repeat (first | assumption | exact Ext.refl _ | refine Ext.alloc ?_ _ | refine Ext.drew ?_ | refine Ext.setB ?_ (by first | omega | (simp only [size_alloc, size_setB, size_drew]; omega)) _ | exact Ext.trans (by assumption) (by assumption) | refine Ext.trans ?_ (by assumption)))) (by first | assumption | exact AB.ext (by assumption) (by repeat (first | assumption | exact Ext.refl _ | refine Ext.alloc ?_ _ | refine Ext.drew ?_ | refine Ext.setB ?_ (by first | omega | (simp only [size_alloc, size_setB, size_drew]; omega)) _ | exact Ext.trans (by assumption) (by assumption) | refine Ext.trans ?_ (by assumption))) | exact PB.ab (by assumption) | exact PB.ab (PB.ext (by assumption) (by repeat (first | assumption | exact Ext.refl _ | refine Ext.alloc ?_ _ | refine Ext.drew ?_ | refine Ext.setB ?_ (by first | omega | (simp only [size_alloc, size_setB, size_drew]; omega)) _ | exact Ext.trans (by assumption) (by assumption) | refine Ext.trans ?_ (by assumption))))) (by omega)) ?_)
          rintro _ w29_21 ⟨hE29_21, s29_21, rfl, hN29_21⟩
          refine ⟨(fun h => by cases h), ?_⟩
          have hz29_21 := hE29_21.1
          try simp only [size_alloc, size_setB, size_drew] at hz29_21
          have hs29_21 := hN29_21.z_bv
          refine WH_p (PS_assign_slice rfl) rfl ?_
          refine WH_nil ?_
          refine thn_normal ?_
          refine W_ret ?_
          refine inBlk_ret ?_
          refine thn_ret ?_
          refine bodyQ_ret1 Hvac.results126 rfl (.slice _ _ _) rfl ?_
          have e8 : yvst y f o l = y := (by unfold yvst; rw [if_neg (by omega), if_neg (by omega)]); rw [e8]; exact ⟨(_, _, _), x, rfl, (SStep.refl hX.ss).extR (by repeat (first | assumption | exact Ext.refl _ | refine Ext.alloc ?_ _ | refine Ext.drew ?_ | refine Ext.setB ?_ (by first | omega | (simp only [size_alloc, size_setB, size_drew]; omega)) _ | refine Ext.trans ?_ (by assumption))), rfl, rfl, NN.castY (by first | exact NN.nil _ | assumption | exact NN.ext (by assumption) (by repeat (first | assumption | exact Ext.refl _ | refine Ext.alloc ?_ _ | refine Ext.drew ?_ | refine Ext.setB ?_ (by first | omega | (simp only [size_alloc, size_setB, size_drew]; omega)) _ | exact Ext.trans (by assumption) (by assumption) | refine Ext.trans ?_ (by assumption)))) (by unfold yval; repeat (first | rw [if_pos (by omega)] | rw [if_neg (by omega)]))⟩
        · have hb16p := hb16.h; try simp only [al_ete, al_dfn, Bool.not_eq_true', Bool.not_eq_false', al_ne, Bool.not_not, al_nn] at hb16p
          exfalso; omega
      · have hb14p := hb14.h; try simp only [al_ete, al_dfn, Bool.not_eq_true', Bool.not_eq_false', al_ne, Bool.not_not, al_nn] at hb14p
        refine WO_guardF rfl rfl hb14.h ?_
        refine WO_guardF rfl rfl hb14.h ?_
        refine WO_p (PS_pickF rfl hb14.h rfl) ?_
        refine WO_p (PS_assign_bool rfl) ?_
        refine WO_nil ?_
        refine thn_normal ?_
        refine W_condF rfl rfl ?_
        refine W_seq ?_
        refine W_seq ?_
        refine W_region rfl ?_
        refine WO_p (PS_move_int rfl) ?_
        refine WO_p (PS_geq rfl rfl) ?_
        refine WO_p (PS_move_bool rfl) ?_
        refine WO_if (t := 62) rfl (fun hb24 => ?_) (fun hb24 => ?_)
        · have hb24p := hb24.h; try simp only [al_ete, al_dfn, Bool.not_eq_true', Bool.not_eq_false', al_ne, Bool.not_not, al_nn] at hb24p
          refine WO_guardT rfl rfl hb24.h ?_
          refine WO_p (PS_move_int rfl) ?_
          refine WO_guardT rfl rfl hb24.h ?_
          refine WO_p (PS_leq rfl rfl) ?_
          refine WO_p (PS_pickT rfl hb24.h rfl) ?_
          refine WO_p (PS_assign_bool rfl) ?_
          refine WO_nil ?_
          refine thn_normal ?_
          refine W_if rfl (fun hb26 => ?_) (fun hb26 => ?_)
          · have hb26p := hb26.h; try simp only [al_ete, al_dfn, Bool.not_eq_true', Bool.not_eq_false', al_ne, Bool.not_not, al_nn] at hb26p
            refine W_skip ?_
            refine thn_normal ?_
            refine W_condT rfl hb26.h ?_
            refine W_seq ?_
            refine W_region rfl ?_
            refine WO_p (PS_move_ptr rfl) ?_
            refine WO_p (PS_move_int rfl) ?_
            refine WO_p (PS_move_slice rfl) ?_
            refine WO_call Hvac.call204 (by rfl) (Ret.mono (yBlock_spec _ (OmB.ext hO (by repeat (first | assumption | exact Ext.refl _ | refine Ext.alloc ?_ _ | refine Ext.drew ?_ | refine Ext.setB ?_ (by first | omega | (simp only [size_alloc, size_setB, size_drew]; omega)) _ | exact Ext.trans (by assumption) (by assumption) | refine Ext.trans ?_ (by assumption)))) C x y (YSS.ext hX.ss (by repeat (first | assumption | exact Ext.refl _ | refine Ext.alloc ?_ _ | refine Ext.drew ?_ | refine Ext.setB ?_ (by first | omega | (simp only [size_alloc, size_setB, size_drew]; omega)) _ | exact Ext.trans (by assumption) (by assumption) | refine Ext.trans ?_ (by assumption)))) hhl _ (by omega) _ _ _ _ (by first | exact NN.nil _ | assumption | exact NN.ext (by assumption) (by repeat (first | assumption | exact Ext.refl _ | refine Ext.alloc ?_ _ | refine Ext.drew ?_ | refine Ext.setB ?_ (by first | omega | (simp only [size_alloc, size_setB, size_drew]; omega)) _ | exact Ext.trans (by assumption) (by assumption) | refine Ext.trans ?_ (by assumption)))) (by first | assumption | omega | (rw [sz_zero]; omega))) ?_)
            rintro _ w204_26 ⟨hE204_26, s204_26, rfl, hN204_26⟩
            have hz204_26 := hE204_26.1
            try simp only [size_alloc, size_setB, size_drew] at hz204_26
            refine WO_p (PS_assign_slice rfl) ?_
            refine WO_nil ?_
            refine thn_normal ?_
            refine W_ret ?_
            refine inBlk_ret ?_
            refine thn_ret ?_
            refine bodyQ_ret1 Hvac.results126 rfl (.slice _ _ _) rfl ?_
            have e8 : yvst y f o l = y := (by unfold yvst; rw [if_neg (by omega), if_neg (by omega)]); rw [e8]; exact ⟨(_, _, _), x, rfl, (SStep.refl hX.ss).extR (by repeat (first | assumption | exact Ext.refl _ | refine Ext.alloc ?_ _ | refine Ext.drew ?_ | refine Ext.setB ?_ (by first | omega | (simp only [size_alloc, size_setB, size_drew]; omega)) _ | refine Ext.trans ?_ (by assumption))), rfl, rfl, NN.castY (by first | exact NN.nil _ | assumption | exact NN.ext (by assumption) (by repeat (first | assumption | exact Ext.refl _ | refine Ext.alloc ?_ _ | refine Ext.drew ?_ | refine Ext.setB ?_ (by first | omega | (simp only [size_alloc, size_setB, size_drew]; omega)) _ | exact Ext.trans (by assumption) (by assumption) | refine Ext.trans ?_ (by assumption)))) (by unfold yval; repeat (first | rw [if_pos (by omega)] | rw [if_neg (by omega)]))⟩
          · have hb26p := hb26.h; try simp only [al_ete, al_dfn, Bool.not_eq_true', Bool.not_eq_false', al_ne, Bool.not_not, al_nn] at hb26p
            refine W_region rfl ?_
            refine WO_p (PS_move_int rfl) ?_
            refine WO_p (PS_eql rfl rfl) ?_
            refine WO_p (PS_assign_bool rfl) ?_
            refine WO_nil ?_
            refine thn_normal ?_
            refine W_if rfl (fun hb29 => ?_) (fun hb29 => ?_)
            · have hb29p := hb29.h; try simp only [al_ete, al_dfn, Bool.not_eq_true', Bool.not_eq_false', al_ne, Bool.not_not, al_nn] at hb29p
              have ho5 : o = 72 := by omega
              refine W_seq ?_
              refine W_region rfl ?_
              refine WO_p (PS_move_ptr rfl) ?_
              refine WO_p (PS_move_int rfl) ?_
              refine WO_p (PS_move_slice rfl) ?_
              refine WO_call Hvac.call204 (by rfl) (Ret.mono (yBlock_spec _ (OmB.ext hO (by repeat (first | assumption | exact Ext.refl _ | refine Ext.alloc ?_ _ | refine Ext.drew ?_ | refine Ext.setB ?_ (by first | omega | (simp only [size_alloc, size_setB, size_drew]; omega)) _ | exact Ext.trans (by assumption) (by assumption) | refine Ext.trans ?_ (by assumption)))) C x y (YSS.ext hX.ss (by repeat (first | assumption | exact Ext.refl _ | refine Ext.alloc ?_ _ | refine Ext.drew ?_ | refine Ext.setB ?_ (by first | omega | (simp only [size_alloc, size_setB, size_drew]; omega)) _ | exact Ext.trans (by assumption) (by assumption) | refine Ext.trans ?_ (by assumption)))) hhl _ (by omega) _ _ _ _ (by first | exact NN.nil _ | assumption | exact NN.ext (by assumption) (by repeat (first | assumption | exact Ext.refl _ | refine Ext.alloc ?_ _ | refine Ext.drew ?_ | refine Ext.setB ?_ (by first | omega | (simp only [size_alloc, size_setB, size_drew]; omega)) _ | exact Ext.trans (by assumption) (by assumption) | refine Ext.trans ?_ (by assumption)))) (by first | assumption | omega | (rw [sz_zero]; omega))) ?_)
              rintro _ w204_29 ⟨hE204_29, s204_29, rfl, hN204_29⟩
              have hz204_29 := hE204_29.1
              try simp only [size_alloc, size_setB, size_drew] at hz204_29
              refine WO_p (PS_assign_slice rfl) ?_
              refine WO_nil ?_
              refine thn_normal ?_
              refine W_ret ?_
              refine inBlk_ret ?_
              refine thn_ret ?_
              refine bodyQ_ret1 Hvac.results126 rfl (.slice _ _ _) rfl ?_
              have e8 : yvst y f o l = y := (by unfold yvst; rw [if_neg (by omega), if_neg (by omega)]); rw [e8]; exact ⟨(_, _, _), x, rfl, (SStep.refl hX.ss).extR (by repeat (first | assumption | exact Ext.refl _ | refine Ext.alloc ?_ _ | refine Ext.drew ?_ | refine Ext.setB ?_ (by first | omega | (simp only [size_alloc, size_setB, size_drew]; omega)) _ | refine Ext.trans ?_ (by assumption))), rfl, rfl, NN.castY (by first | exact NN.nil _ | assumption | exact NN.ext (by assumption) (by repeat (first | assumption | exact Ext.refl _ | refine Ext.alloc ?_ _ | refine Ext.drew ?_ | refine Ext.setB ?_ (by first | omega | (simp only [size_alloc, size_setB, size_drew]; omega)) _ | exact Ext.trans (by assumption) (by assumption) | refine Ext.trans ?_ (by assumption)))) (by unfold yval; repeat (first | rw [if_pos (by omega)] | rw [if_neg (by omega)]))⟩
            · have hb29p := hb29.h; try simp only [al_ete, al_dfn, Bool.not_eq_true', Bool.not_eq_false', al_ne, Bool.not_not, al_nn] at hb29p
              refine W_seq ?_
              refine W_seq ?_
              refine W_region rfl ?_
              refine WO_p (PS_move_int rfl) ?_
              refine WO_p (PS_eql rfl rfl) ?_
              refine WO_p (PS_assign_bool rfl) ?_
              refine WO_nil ?_
              refine thn_normal ?_
              refine W_if rfl (fun hb32 => ?_) (fun hb32 => ?_)
              · have hb32p := hb32.h; try simp only [al_ete, al_dfn, Bool.not_eq_true', Bool.not_eq_false', al_ne, Bool.not_not, al_nn] at hb32p
                exfalso; omega
              · have hb32p := hb32.h; try simp only [al_ete, al_dfn, Bool.not_eq_true', Bool.not_eq_false', al_ne, Bool.not_not, al_nn] at hb32p
                refine W_seq ?_
                refine W_region rfl ?_
                refine WO_p (PS_move_int rfl) ?_
                refine WO_p (PS_eql rfl rfl) ?_
                refine WO_p (PS_assign_bool rfl) ?_
                refine WO_nil ?_
                refine thn_normal ?_
                refine W_if rfl (fun hb34 => ?_) (fun hb34 => ?_)
                · have hb34p := hb34.h; try simp only [al_ete, al_dfn, Bool.not_eq_true', Bool.not_eq_false', al_ne, Bool.not_not, al_nn] at hb34p
                  exfalso; omega
                · have hb34p := hb34.h; try simp only [al_ete, al_dfn, Bool.not_eq_true', Bool.not_eq_false', al_ne, Bool.not_not, al_nn] at hb34p
                  refine W_region rfl ?_
                  refine WO_p (PS_move_int rfl) ?_
                  refine WO_p (PS_eql rfl rfl) ?_
                  refine WO_p (PS_assign_bool rfl) ?_
                  refine WO_nil ?_
                  refine thn_normal ?_
                  refine W_if rfl (fun hb36 => ?_) (fun hb36 => ?_)
                  · have hb36p := hb36.h; try simp only [al_ete, al_dfn, Bool.not_eq_true', Bool.not_eq_false', al_ne, Bool.not_not, al_nn] at hb36p
                    exfalso; omega
                  · have hb36p := hb36.h; try simp only [al_ete, al_dfn, Bool.not_eq_true', Bool.not_eq_false', al_ne, Bool.not_not, al_nn] at hb36p
                    refine W_skip ?_
                    refine inBlk_normal ?_
                    refine thn_normal ?_
                    refine W_seq ?_
                    refine W_seq ?_
                    refine W_region rfl ?_
                    refine WO_p (PS_move_int rfl) ?_
                    refine WO_nil ?_
                    refine thn_normal ?_
                    refine W_block ?_
                    refine W_seq ?_
                    refine W_region rfl ?_
                    refine WO_p (PS_eql rfl rfl) ?_
                    refine WO_p (PS_assign_bool rfl) ?_
                    refine WO_nil ?_
                    refine thn_normal ?_
                    refine W_if rfl (fun hb38 => ?_) (fun hb38 => ?_)
                    · have hb38p := hb38.h; try simp only [al_ete, al_dfn, Bool.not_eq_true', Bool.not_eq_false', al_ne, Bool.not_not, al_nn] at hb38p
                      exfalso; omega
                    · have hb38p := hb38.h; try simp only [al_ete, al_dfn, Bool.not_eq_true', Bool.not_eq_false', al_ne, Bool.not_not, al_nn] at hb38p
                      refine W_seq ?_
                      refine W_region rfl ?_
                      refine WO_p (PS_eql rfl rfl) ?_
                      refine WO_p (PS_assign_bool rfl) ?_
                      refine WO_nil ?_
                      refine thn_normal ?_
                      refine W_if rfl (fun hb40 => ?_) (fun hb40 => ?_)
                      · have hb40p := hb40.h; try simp only [al_ete, al_dfn, Bool.not_eq_true', Bool.not_eq_false', al_ne, Bool.not_not, al_nn] at hb40p
                        exfalso; omega
                      · have hb40p := hb40.h; try simp only [al_ete, al_dfn, Bool.not_eq_true', Bool.not_eq_false', al_ne, Bool.not_not, al_nn] at hb40p
                        refine W_seq ?_
                        refine W_region rfl ?_
                        refine WO_p (PS_eql rfl rfl) ?_
                        refine WO_p (PS_assign_bool rfl) ?_
                        refine WO_nil ?_
                        refine thn_normal ?_
                        refine W_if rfl (fun hb42 => ?_) (fun hb42 => ?_)
                        · have hb42p := hb42.h; try simp only [al_ete, al_dfn, Bool.not_eq_true', Bool.not_eq_false', al_ne, Bool.not_not, al_nn] at hb42p
                          exfalso; omega
                        · have hb42p := hb42.h; try simp only [al_ete, al_dfn, Bool.not_eq_true', Bool.not_eq_false', al_ne, Bool.not_not, al_nn] at hb42p
                          refine W_seq ?_
                          refine W_region rfl ?_
                          refine WO_p (PS_eql rfl rfl) ?_
                          refine WO_p (PS_assign_bool rfl) ?_
                          refine WO_nil ?_
                          refine thn_normal ?_
                          refine W_if rfl (fun hb44 => ?_) (fun hb44 => ?_)
                          · have hb44p := hb44.h; try simp only [al_ete, al_dfn, Bool.not_eq_true', Bool.not_eq_false', al_ne, Bool.not_not, al_nn] at hb44p
                            exfalso; omega
                          · have hb44p := hb44.h; try simp only [al_ete, al_dfn, Bool.not_eq_true', Bool.not_eq_false', al_ne, Bool.not_not, al_nn] at hb44p
                            refine W_seq ?_
                            refine W_region rfl ?_
                            refine WO_p (PS_eql rfl rfl) ?_
                            refine WO_p (PS_assign_bool rfl) ?_
                            refine WO_nil ?_
                            refine thn_normal ?_
                            refine W_if rfl (fun hb46 => ?_) (fun hb46 => ?_)
                            · have hb46p := hb46.h; try simp only [al_ete, al_dfn, Bool.not_eq_true', Bool.not_eq_false', al_ne, Bool.not_not, al_nn] at hb46p
                              exfalso; omega
                            · have hb46p := hb46.h; try simp only [al_ete, al_dfn, Bool.not_eq_true', Bool.not_eq_false', al_ne, Bool.not_not, al_nn] at hb46p
                              refine W_seq ?_
                              refine W_region rfl ?_
                              refine WO_p (PS_eql rfl rfl) ?_
                              refine WO_p (PS_assign_bool rfl) ?_
                              refine WO_nil ?_
                              refine thn_normal ?_
                              refine W_if rfl (fun hb48 => ?_) (fun hb48 => ?_)
                              · have hb48p := hb48.h; try simp only [al_ete, al_dfn, Bool.not_eq_true', Bool.not_eq_false', al_ne, Bool.not_not, al_nn] at hb48p
                                exfalso; omega
                              · have hb48p := hb48.h; try simp only [al_ete, al_dfn, Bool.not_eq_true', Bool.not_eq_false', al_ne, Bool.not_not, al_nn] at hb48p
                                refine W_seq ?_
                                refine W_region rfl ?_
                                refine WO_p (PS_eql rfl rfl) ?_
                                refine WO_p (PS_assign_bool rfl) ?_
                                refine WO_nil ?_
                                refine thn_normal ?_
                                refine W_if rfl (fun hb50 => ?_) (fun hb50 => ?_)
                                · have hb50p := hb50.h; try simp only [al_ete, al_dfn, Bool.not_eq_true', Bool.not_eq_false', al_ne, Bool.not_not, al_nn] at hb50p
                                  exfalso; omega
                                · have hb50p := hb50.h; try simp only [al_ete, al_dfn, Bool.not_eq_true', Bool.not_eq_false', al_ne, Bool.not_not, al_nn] at hb50p
                                  refine W_seq ?_
                                  refine W_region rfl ?_
                                  refine WO_p (PS_eql rfl rfl) ?_
                                  refine WO_p (PS_assign_bool rfl) ?_
                                  refine WO_nil ?_
                                  refine thn_normal ?_
                                  refine W_if rfl (fun hb52 => ?_) (fun hb52 => ?_)
                                  · have hb52p := hb52.h; try simp only [al_ete, al_dfn, Bool.not_eq_true', Bool.not_eq_false', al_ne, Bool.not_not, al_nn] at hb52p
                                    exfalso; omega
                                  · have hb52p := hb52.h; try simp only [al_ete, al_dfn, Bool.not_eq_true', Bool.not_eq_false', al_ne, Bool.not_not, al_nn] at hb52p
                                    refine W_seq ?_
                                    refine W_region rfl ?_
                                    refine WO_p (PS_eql rfl rfl) ?_
                                    refine WO_p (PS_assign_bool rfl) ?_
                                    refine WO_nil ?_
                                    refine thn_normal ?_
                                    refine W_if rfl (fun hb54 => ?_) (fun hb54 => ?_)
                                    · have hb54p := hb54.h; try simp only [al_ete, al_dfn, Bool.not_eq_true', Bool.not_eq_false', al_ne, Bool.not_not, al_nn] at hb54p
                                      exfalso; omega
                                    · have hb54p := hb54.h; try simp only [al_ete, al_dfn, Bool.not_eq_true', Bool.not_eq_false', al_ne, Bool.not_not, al_nn] at hb54p
                                      refine W_seq ?_
                                      refine W_region rfl ?_
                                      refine WO_p (PS_eql rfl rfl) ?_
                                      refine WO_p (PS_assign_bool rfl) ?_
                                      refine WO_nil ?_
                                      refine thn_normal ?_
                                      refine W_if rfl (fun hb56 => ?_) (fun hb56 => ?_)
                                      · have hb56p := hb56.h; try simp only [al_ete, al_dfn, Bool.not_eq_true', Bool.not_eq_false', al_ne, Bool.not_not, al_nn] at hb56p
                                        have ho5 : o = 71 := by omega
                                        refine W_seq ?_
                                        refine W_drawE [false, false, false, false, false, false, false, false, false, false, false] hmix (by kernel_rfl) rfl ?_
                                        refine WH_p (PS_move_ptr rfl) rfl ?_
                                        refine WH_p (PS_nilCheck rfl) rfl ?_
                                        refine WH_p (PS_fieldAddr 0 Hvac.runUnderlying99 rfl Hvac.sizeOf95 rfl rfl) rfl ?_
                                        refine WH_p (PS_move_ptr rfl) rfl ?_
                                        refine WH_p (PS_nilCheck rfl) rfl ?_
                                        refine WH_p (PS_fieldAddr 12 Hvac.runUnderlying121 rfl Hvac.sizeOf25 rfl rfl) rfl ?_
                                        refine WH_loadA _ Hvac.isAgg25 Hvac.sizeOf25 rfl (Hb.h (by repeat (first | assumption | exact Hb.newY _ _ | refine Hb.alloc ?_ | refine Hb.drew ?_ | refine Hb.ext (by assumption) ?_ | exact Hb.setSameL (by first | omega | (simp only [size_alloc, size_setB, size_drew]; omega)) | exact Hb.setSame (by assumption) | refine Hb.set (by first | omega | (simp only [size_alloc, size_setB, size_drew]; omega)) ?_ ))) (by first | omega | assumption | rfl | decide | exact Nat.le_refl _ | (simp only [size_ic, Value.cells]; omega) | (simp [encWs]; done) | (simp; omega) | simp | exact encYA_sz (by assumption) | exact encYT_sz (by assumption) | exact encYM_sz (by assumption)) (Xt.h (by first | assumption | exact Xt.whole rfl rfl | exact Xt.whole rfl (by assumption) | exact Xt.whole rfl (by simp only [size_ic, Value.cells]; omega) | exact ⟨rfl⟩)) ?_
                                        refine WH_call Hvac.call17 (by rfl) (Ret.mono (acctS (OmB.ext hO (by repeat (first | assumption | exact Ext.refl _ | refine Ext.alloc ?_ _ | refine Ext.drew ?_ | refine Ext.setB ?_ (by first | omega | (simp only [size_alloc, size_setB, size_drew]; omega)) _ | exact Ext.trans (by assumption) (by assumption) | refine Ext.trans ?_ (by assumption)))) (by first | assumption | exact YSS.ext (by assumption) (by repeat (first | assumption | exact Ext.refl _ | refine Ext.alloc ?_ _ | refine Ext.drew ?_ | refine Ext.setB ?_ (by first | omega | (simp only [size_alloc, size_setB, size_drew]; omega)) _ | exact Ext.trans (by assumption) (by assumption) | refine Ext.trans ?_ (by assumption)))) hB (by omega) hFR.sb) ?_)
                                        rintro _ w17 ⟨hE17, x17, rfl, hxa17, hxr17⟩
                                        refine ⟨(fun h => by cases h), ?_⟩
                                        have hz17 := hE17.1
                                        try simp only [size_alloc, size_setB, size_drew] at hz17
                                        have hxl17 : x17.addr.length = 20 := by rw [hxa17]; exact hFR.sb.1
                                        have hsz17 : (encYA x17).toArray.size = 24 := by simpa using encYA_len hxl17
                                        have hc2_17 := encYA_2 hxl17
                                        have hnb17 := hxr17.bal
                                        have hbz17 := hxr17.bz
                                        refine WH_p (PS_field (.slice _ _ _) 21 Hvac.runUnderlying104 rfl Hvac.isAgg92 rfl rfl (Ce.h (by first | assumption | exact ⟨rfl⟩))) rfl ?_
                                        refine WH_call Hvac.call79 (by rfl) (Ret.mono (nNorm_spec (OmB.ext hO (by repeat (first | assumption | exact Ext.refl _ | refine Ext.alloc ?_ _ | refine Ext.drew ?_ | refine Ext.setB ?_ (by first | omega | (simp only [size_alloc, size_setB, size_drew]; omega)) _ | exact Ext.trans (by assumption) (by assumption) | refine Ext.trans ?_ (by assumption)))) (by first | exact NN.nil _ | assumption | exact NN.ext (by assumption) (by repeat (first | assumption | exact Ext.refl _ | refine Ext.alloc ?_ _ | refine Ext.drew ?_ | refine Ext.setB ?_ (by first | omega | (simp only [size_alloc, size_setB, size_drew]; omega)) _ | exact Ext.trans (by assumption) (by assumption) | refine Ext.trans ?_ (by assumption)))) (by first | assumption | omega | (rw [sz_zero]; omega))) ?_)
                                        rintro _ w79_57 ⟨hE79_57, s79_57, rfl, hN79_57⟩
                                        refine ⟨(fun h => by cases h), ?_⟩
                                        have hz79_57 := hE79_57.1
                                        try simp only [size_alloc, size_setB, size_drew] at hz79_57
                                        refine WH_p (PS_assign_slice rfl) rfl ?_
                                        refine WH_nil ?_
                                        refine thn_normal ?_
                                        refine W_ret ?_
                                        refine inBlk_ret ?_
                                        refine thn_ret ?_
                                        refine bodyQ_ret1 Hvac.results126 rfl (.slice _ _ _) rfl ?_
                                        have e8 : yvst y f o l = y := (by unfold yvst; rw [if_neg (by omega), if_neg (by omega)]); rw [e8]; subst ho5; exact ⟨(_, _, _), x, rfl, (SStep.refl hX.ss).extR (by repeat (first | assumption | exact Ext.refl _ | refine Ext.alloc ?_ _ | refine Ext.drew ?_ | refine Ext.setB ?_ (by first | omega | (simp only [size_alloc, size_setB, size_drew]; omega)) _ | refine Ext.trans ?_ (by assumption))), rfl, rfl, NN.castY (by first | exact NN.nil _ | assumption | exact NN.ext (by assumption) (by repeat (first | assumption | exact Ext.refl _ | refine Ext.alloc ?_ _ | refine Ext.drew ?_ | refine Ext.setB ?_ (by first | omega | (simp only [size_alloc, size_setB, size_drew]; omega)) _ | exact Ext.trans (by assumption) (by assumption) | refine Ext.trans ?_ (by assumption)))) (by simp [yval] <;> omega)⟩
                                      · have hb56p := hb56.h; try simp only [al_ete, al_dfn, Bool.not_eq_true', Bool.not_eq_false', al_ne, Bool.not_not, al_nn] at hb56p
                                        refine W_seq ?_
                                        refine W_region rfl ?_
                                        refine WO_p (PS_eql rfl rfl) ?_
                                        refine WO_p (PS_assign_bool rfl) ?_
                                        refine WO_nil ?_
                                        refine thn_normal ?_
                                        refine W_if rfl (fun hb60 => ?_) (fun hb60 => ?_)
                                        · have hb60p := hb60.h; try simp only [al_ete, al_dfn, Bool.not_eq_true', Bool.not_eq_false', al_ne, Bool.not_not, al_nn] at hb60p
                                          have ho5 : o = 81 := by omega
                                          refine W_seq ?_
                                          refine W_drawE [false, false, false, false, false, true, false, false, false] hmix (by kernel_rfl) rfl ?_
                                          refine WH_p (PS_move_ptr rfl) rfl ?_
                                          refine WH_p (PS_nilCheck rfl) rfl ?_
                                          refine WH_p (PS_fieldAddr 9 Hvac.runUnderlying121 rfl Hvac.sizeOf32 rfl rfl) rfl ?_
                                          refine WH_load (.slice _ _ _) Hvac.isAgg32 rfl (Hb.h (by repeat (first | assumption | exact Hb.newY _ _ | refine Hb.alloc ?_ | refine Hb.drew ?_ | refine Hb.ext (by assumption) ?_ | exact Hb.setSameL (by first | omega | (simp only [size_alloc, size_setB, size_drew]; omega)) | exact Hb.setSame (by assumption) | refine Hb.set (by first | omega | (simp only [size_alloc, size_setB, size_drew]; omega)) ?_ ))) (Ce.h (by first | assumption | exact ⟨rfl⟩)) ?_
                                          refine WH_p (PS_move_slice rfl) rfl ?_
                                          refine WH_call Hvac.call19 (by rfl) (Ret.mono (nNum_spec (OmB.ext hO (by repeat (first | assumption | exact Ext.refl _ | refine Ext.alloc ?_ _ | refine Ext.drew ?_ | refine Ext.setB ?_ (by first | omega | (simp only [size_alloc, size_setB, size_drew]; omega)) _ | exact Ext.trans (by assumption) (by assumption) | refine Ext.trans ?_ (by assumption)))) ⟨by omega, by omega⟩) ?_)
                                          rintro _ w19_60 ⟨hE19_60, s19_60, rfl, hN19_60, hs19_60⟩
                                          refine ⟨fun _ => (by repeat (first | assumption | exact Ext.refl _ | refine Ext.alloc ?_ _ | refine Ext.drew ?_ | refine Ext.setB ?_ (by first | omega | (simp only [size_alloc, size_setB, size_drew]; omega)) _ | exact Ext.trans (by assumption) (by assumption) | refine Ext.trans ?_ (by assumption))), ?_⟩
                                          have hz19_60 := hE19_60.1
                                          try simp only [size_alloc, size_setB, size_drew] at hz19_60
                                          try simp only [Int.toNat_natCast, toNat_lit] at hN19_60 hs19_60
                                          try simp only [show Int.toNat 1 = 1 from rfl, show Int.toNat 32 = 32 from rfl] at hN19_60 hs19_60
                                          refine WH_call Hvac.call120 (by rfl) (Ret.mono (yCut_spec _ (OmB.ext hO (by repeat (first | assumption | exact Ext.refl _ | refine Ext.alloc ?_ _ | refine Ext.drew ?_ | refine Ext.setB ?_ (by first | omega | (simp only [size_alloc, size_setB, size_drew]; omega)) _ | exact Ext.trans (by assumption) (by assumption) | refine Ext.trans ?_ (by assumption)))) _ _ _ _ (by first | assumption | exact AB.ext (by assumption) (by repeat (first | assumption | exact Ext.refl _ | refine Ext.alloc ?_ _ | refine Ext.drew ?_ | refine Ext.setB ?_ (by first | omega | (simp only [size_alloc, size_setB, size_drew]; omega)) _ | exact Ext.trans (by assumption) (by assumption) | refine Ext.trans ?_ (by assumption))) | exact PB.ab (by assumption) | exact PB.ab (PB.ext (by assumption) (by repeat (first | assumption | exact Ext.refl _ | refine Ext.alloc ?_ _ | refine Ext.drew ?_ | refine Ext.setB ?_ (by first | omega | (simp only [size_alloc, size_setB, size_drew]; omega)) _ | exact Ext.trans (by assumption) (by assumption) | refine Ext.trans ?_ (by assumption))))) (by omega) _ _ _ _ (by first | exact NN.nil _ | assumption | exact NN.ext (by assumption) (by repeat (first | assumption | exact Ext.refl _ | refine Ext.alloc ?_ _ | refine Ext.drew ?_ | refine Ext.setB ?_ (by first | omega | (simp only [size_alloc, size_setB, size_drew]; omega)) _ | exact Ext.trans (by assumption) (by assumption) | refine Ext.trans ?_ (by assumption)))) (by first | assumption | omega | (rw [sz_zero]; omega)) _ _ _ _ (by first | exact NN.nil _ | assumption | exact NN.ext (by assumption) (by repeat (first | assumption | exact Ext.refl _ | refine Ext.alloc ?_ _ | refine Ext.drew ?_ | refine Ext.setB ?_ (by first | omega | (simp only [size_alloc, size_setB, size_drew]; omega)) _ | exact Ext.trans (by assumption) (by assumption) | refine Ext.trans ?_ (by assumption)))) (by first | assumption | omega | (rw [sz_zero]; omega)) (by omega)) ?_)
                                          rintro _ w120_61 ⟨hE120_61, s120_61, rfl, hN120_61⟩
                                          refine ⟨(fun h => by cases h), ?_⟩
                                          have hz120_61 := hE120_61.1
                                          try simp only [size_alloc, size_setB, size_drew] at hz120_61
                                          have hl120_61 := PB.len hN120_61
                                          rw [ycut_len] at hl120_61
                                          refine WH_call Hvac.call29 (by rfl) (Ret.mono (nBE_spec (OmB.ext hO (by repeat (first | assumption | exact Ext.refl _ | refine Ext.alloc ?_ _ | refine Ext.drew ?_ | refine Ext.setB ?_ (by first | omega | (simp only [size_alloc, size_setB, size_drew]; omega)) _ | exact Ext.trans (by assumption) (by assumption) | refine Ext.trans ?_ (by assumption)))) (by first | assumption | exact AB.ext (by assumption) (by repeat (first | assumption | exact Ext.refl _ | refine Ext.alloc ?_ _ | refine Ext.drew ?_ | refine Ext.setB ?_ (by first | omega | (simp only [size_alloc, size_setB, size_drew]; omega)) _ | exact Ext.trans (by assumption) (by assumption) | refine Ext.trans ?_ (by assumption))) | exact PB.ab (by assumption) | exact PB.ab (PB.ext (by assumption) (by repeat (first | assumption | exact Ext.refl _ | refine Ext.alloc ?_ _ | refine Ext.drew ?_ | refine Ext.setB ?_ (by first | omega | (simp only [size_alloc, size_setB, size_drew]; omega)) _ | exact Ext.trans (by assumption) (by assumption) | refine Ext.trans ?_ (by assumption))))) (by omega)) ?_)
                                          rintro _ w29_62 ⟨hE29_62, s29_62, rfl, hN29_62⟩
                                          refine ⟨(fun h => by cases h), ?_⟩
                                          have hz29_62 := hE29_62.1
                                          try simp only [size_alloc, size_setB, size_drew] at hz29_62
                                          have hs29_62 := hN29_62.z_bv
                                          refine WH_p (PS_assign_slice rfl) rfl ?_
                                          refine WH_nil ?_
                                          refine thn_normal ?_
                                          refine W_ret ?_
                                          refine inBlk_ret ?_
                                          refine thn_ret ?_
                                          refine bodyQ_ret1 Hvac.results126 rfl (.slice _ _ _) rfl ?_
                                          have e8 : yvst y f o l = y := (by unfold yvst; rw [if_neg (by omega), if_neg (by omega)]); rw [e8]; subst ho5; exact ⟨(_, _, _), x, rfl, (SStep.refl hX.ss).extR (by repeat (first | assumption | exact Ext.refl _ | refine Ext.alloc ?_ _ | refine Ext.drew ?_ | refine Ext.setB ?_ (by first | omega | (simp only [size_alloc, size_setB, size_drew]; omega)) _ | refine Ext.trans ?_ (by assumption))), rfl, rfl, NN.castY (by first | exact NN.nil _ | assumption | exact NN.ext (by assumption) (by repeat (first | assumption | exact Ext.refl _ | refine Ext.alloc ?_ _ | refine Ext.drew ?_ | refine Ext.setB ?_ (by first | omega | (simp only [size_alloc, size_setB, size_drew]; omega)) _ | exact Ext.trans (by assumption) (by assumption) | refine Ext.trans ?_ (by assumption)))) (by simp [yval] <;> omega)⟩
                                        · have hb60p := hb60.h; try simp only [al_ete, al_dfn, Bool.not_eq_true', Bool.not_eq_false', al_ne, Bool.not_not, al_nn] at hb60p
                                          refine W_seq ?_
                                          refine W_region rfl ?_
                                          refine WO_p (PS_eql rfl rfl) ?_
                                          refine WO_p (PS_assign_bool rfl) ?_
                                          refine WO_nil ?_
                                          refine thn_normal ?_
                                          refine W_if rfl (fun hb65 => ?_) (fun hb65 => ?_)
                                          · have hb65p := hb65.h; try simp only [al_ete, al_dfn, Bool.not_eq_true', Bool.not_eq_false', al_ne, Bool.not_not, al_nn] at hb65p
                                            have ho5 : o = 84 := by omega
                                            refine W_seq ?_
                                            refine W_drawE [false, false, false, false, false, false, false, false, false] hmix (by kernel_rfl) rfl ?_
                                            refine WH_p (PS_move_ptr rfl) rfl ?_
                                            refine WH_p (PS_nilCheck rfl) rfl ?_
                                            refine WH_p (PS_fieldAddr 0 Hvac.runUnderlying99 rfl Hvac.sizeOf95 rfl rfl) rfl ?_
                                            refine WH_p (PS_move_ptr rfl) rfl ?_
                                            refine WH_p (PS_nilCheck rfl) rfl ?_
                                            refine WH_p (PS_fieldAddr 12 Hvac.runUnderlying121 rfl Hvac.sizeOf25 rfl rfl) rfl ?_
                                            refine WH_loadA _ Hvac.isAgg25 Hvac.sizeOf25 rfl (Hb.h (by repeat (first | assumption | exact Hb.newY _ _ | refine Hb.alloc ?_ | refine Hb.drew ?_ | refine Hb.ext (by assumption) ?_ | exact Hb.setSameL (by first | omega | (simp only [size_alloc, size_setB, size_drew]; omega)) | exact Hb.setSame (by assumption) | refine Hb.set (by first | omega | (simp only [size_alloc, size_setB, size_drew]; omega)) ?_ ))) (by first | omega | assumption | rfl | decide | exact Nat.le_refl _ | (simp only [size_ic, Value.cells]; omega) | (simp [encWs]; done) | (simp; omega) | simp | exact encYA_sz (by assumption) | exact encYT_sz (by assumption) | exact encYM_sz (by assumption)) (Xt.h (by first | assumption | exact Xt.whole rfl rfl | exact Xt.whole rfl (by assumption) | exact Xt.whole rfl (by simp only [size_ic, Value.cells]; omega) | exact ⟨rfl⟩)) ?_
                                            refine WH_p (PS_move_slice rfl) rfl ?_
                                            refine WH_call Hvac.call28 (by rfl) (Ret.mono (warmSlotS (OmB.ext hO (by repeat (first | assumption | exact Ext.refl _ | refine Ext.alloc ?_ _ | refine Ext.drew ?_ | refine Ext.setB ?_ (by first | omega | (simp only [size_alloc, size_setB, size_drew]; omega)) _ | exact Ext.trans (by assumption) (by assumption) | refine Ext.trans ?_ (by assumption)))) (by first | assumption | exact YSS.ext (by assumption) (by repeat (first | assumption | exact Ext.refl _ | refine Ext.alloc ?_ _ | refine Ext.drew ?_ | refine Ext.setB ?_ (by first | omega | (simp only [size_alloc, size_setB, size_drew]; omega)) _ | exact Ext.trans (by assumption) (by assumption) | refine Ext.trans ?_ (by assumption)))) hB (by omega) hFR.sb (by first | exact NN.nil _ | assumption | exact NN.ext (by assumption) (by repeat (first | assumption | exact Ext.refl _ | refine Ext.alloc ?_ _ | refine Ext.drew ?_ | refine Ext.setB ?_ (by first | omega | (simp only [size_alloc, size_setB, size_drew]; omega)) _ | exact Ext.trans (by assumption) (by assumption) | refine Ext.trans ?_ (by assumption)))) (by first | assumption | omega | (rw [sz_zero]; omega))) ?_)
                                            rintro _ w42 ⟨rfl, s42, hT42⟩
                                            refine ⟨(fun h => by cases h), ?_⟩
                                            have hTa42 : SStep w w42 C (xsWarmS x s42) (ysWarmS y (ymk y.now.warmS f.self (l.getD 0 0))) := SStep.pre (by repeat (first | assumption | exact Ext.refl _ | refine Ext.alloc ?_ _ | refine Ext.drew ?_ | refine Ext.setB ?_ (by first | omega | (simp only [size_alloc, size_setB, size_drew]; omega)) _ | refine Ext.trans ?_ (by assumption))) hT42
                                            have hX42 := hX.sstep hTa42 rfl rfl
                                            have hM42 := hFM.cs hX.ss.blk hX.ss.om hTa42.keep
                                            have hS42 := hM42.s0
                                            have hSS42 := hX42.ss
                                            have hSb42 := hSS42.blk
                                            have hSl42 := hSb42.lt
                                            have hFb42 := hM42.blk
                                            have hFl42 := hFb42.lt
                                            replace hO := hX42.omb
                                            have hz42 := hTa42.keep.sz
                                            have hzs42 := encYS_size (xsWarmS x s42)
                                            have hNsa42 := (NN.ext hNsa (by repeat (first | assumption | exact Ext.refl _ | refine Ext.alloc ?_ _ | refine Ext.drew ?_ | refine Ext.setB ?_ (by first | omega | (simp only [size_alloc, size_setB, size_drew]; omega)) _ | refine Ext.trans ?_ (by assumption)))).keep hT42.ko
                                            have hB42 := hB.warmS f.self (l.getD 0 0)
                                            refine WH_nil ?_
                                            refine thn_normal ?_
                                            refine W_seq ?_
                                            refine W_drawE [false, false, false, false, false, false, false, false, false, false] hmix (by kernel_rfl) rfl ?_
                                            refine WH_p (PS_move_ptr rfl) rfl ?_
                                            refine WH_p (PS_nilCheck rfl) rfl ?_
                                            refine WH_p (PS_fieldAddr 0 Hvac.runUnderlying99 rfl Hvac.sizeOf95 rfl rfl) rfl ?_
                                            refine WH_p (PS_move_ptr rfl) rfl ?_
                                            refine WH_p (PS_nilCheck rfl) rfl ?_
                                            refine WH_p (PS_fieldAddr 12 Hvac.runUnderlying121 rfl Hvac.sizeOf25 rfl rfl) rfl ?_
                                            refine WH_loadA _ Hvac.isAgg25 Hvac.sizeOf25 rfl (Hb.h (by repeat (first | assumption | exact Hb.newY _ _ | refine Hb.alloc ?_ | refine Hb.drew ?_ | refine Hb.ext (by assumption) ?_ | exact Hb.setSameL (by first | omega | (simp only [size_alloc, size_setB, size_drew]; omega)) | exact Hb.setSame (by assumption) | refine Hb.set (by first | omega | (simp only [size_alloc, size_setB, size_drew]; omega)) ?_ ))) (by first | omega | assumption | rfl | decide | exact Nat.le_refl _ | (simp only [size_ic, Value.cells]; omega) | (simp [encWs]; done) | (simp; omega) | simp | exact encYA_sz (by assumption) | exact encYT_sz (by assumption) | exact encYM_sz (by assumption)) (Xt.h (by first | assumption | exact Xt.whole rfl rfl | exact Xt.whole rfl (by assumption) | exact Xt.whole rfl (by simp only [size_ic, Value.cells]; omega) | exact ⟨rfl⟩)) ?_
                                            refine WH_p (PS_move_slice rfl) rfl ?_
                                            refine WH_call Hvac.call206 (by rfl) (Ret.mono (loadS (OmB.ext hO (by repeat (first | assumption | exact Ext.refl _ | refine Ext.alloc ?_ _ | refine Ext.drew ?_ | refine Ext.setB ?_ (by first | omega | (simp only [size_alloc, size_setB, size_drew]; omega)) _ | exact Ext.trans (by assumption) (by assumption) | refine Ext.trans ?_ (by assumption)))) (by first | assumption | exact YSS.ext (by assumption) (by repeat (first | assumption | exact Ext.refl _ | refine Ext.alloc ?_ _ | refine Ext.drew ?_ | refine Ext.setB ?_ (by first | omega | (simp only [size_alloc, size_setB, size_drew]; omega)) _ | exact Ext.trans (by assumption) (by assumption) | refine Ext.trans ?_ (by assumption)))) hB42 (by omega) hFR.sb (by first | exact NN.nil _ | assumption | exact NN.ext (by assumption) (by repeat (first | assumption | exact Ext.refl _ | refine Ext.alloc ?_ _ | refine Ext.drew ?_ | refine Ext.setB ?_ (by first | omega | (simp only [size_alloc, size_setB, size_drew]; omega)) _ | exact Ext.trans (by assumption) (by assumption) | refine Ext.trans ?_ (by assumption)))) (by first | assumption | omega | (rw [sz_zero]; omega))) ?_)
                                            rintro _ w206_66 ⟨hE206_66, s206_66, rfl, hN206_66, hs206_66⟩
                                            refine ⟨(fun h => by cases h), ?_⟩
                                            have hz206_66 := hE206_66.1
                                            try simp only [size_alloc, size_setB, size_drew] at hz206_66
                                            refine WH_p (PS_assign_slice rfl) rfl ?_
                                            refine WH_nil ?_
                                            refine thn_normal ?_
                                            refine W_ret ?_
                                            refine inBlk_ret ?_
                                            refine thn_ret ?_
                                            refine bodyQ_ret1 Hvac.results126 rfl (.slice _ _ _) rfl ?_
                                            subst ho5; exact ⟨(_, _, _), xsWarmS x s42, rfl, hTa42.extR (by repeat (first | assumption | exact Ext.refl _ | refine Ext.alloc ?_ _ | refine Ext.drew ?_ | refine Ext.setB ?_ (by first | omega | (simp only [size_alloc, size_setB, size_drew]; omega)) _ | refine Ext.trans ?_ (by assumption))), rfl, rfl, NN.castY (by first | exact NN.nil _ | assumption | exact NN.ext (by assumption) (by repeat (first | assumption | exact Ext.refl _ | refine Ext.alloc ?_ _ | refine Ext.drew ?_ | refine Ext.setB ?_ (by first | omega | (simp only [size_alloc, size_setB, size_drew]; omega)) _ | exact Ext.trans (by assumption) (by assumption) | refine Ext.trans ?_ (by assumption)))) (by simp [yval, ysWarmS])⟩
                                          · have hb65p := hb65.h; try simp only [al_ete, al_dfn, Bool.not_eq_true', Bool.not_eq_false', al_ne, Bool.not_not, al_nn] at hb65p
                                            refine W_seq ?_
                                            refine W_region rfl ?_
                                            refine WO_p (PS_eql rfl rfl) ?_
                                            refine WO_p (PS_assign_bool rfl) ?_
                                            refine WO_nil ?_
                                            refine thn_normal ?_
                                            refine W_if rfl (fun hb69 => ?_) (fun hb69 => ?_)
                                            · have hb69p := hb69.h; try simp only [al_ete, al_dfn, Bool.not_eq_true', Bool.not_eq_false', al_ne, Bool.not_not, al_nn] at hb69p
                                              have ho5 : o = 92 := by omega
                                              refine W_seq ?_
                                              refine W_drawE [false, false, false, false, false, false, false, false, false, false] hmix (by kernel_rfl) rfl ?_
                                              refine WH_p (PS_move_ptr rfl) rfl ?_
                                              refine WH_p (PS_nilCheck rfl) rfl ?_
                                              refine WH_p (PS_fieldAddr 0 Hvac.runUnderlying99 rfl Hvac.sizeOf95 rfl rfl) rfl ?_
                                              refine WH_p (PS_move_ptr rfl) rfl ?_
                                              refine WH_p (PS_nilCheck rfl) rfl ?_
                                              refine WH_p (PS_fieldAddr 12 Hvac.runUnderlying121 rfl Hvac.sizeOf25 rfl rfl) rfl ?_
                                              refine WH_loadA _ Hvac.isAgg25 Hvac.sizeOf25 rfl (Hb.h (by repeat (first | assumption | exact Hb.newY _ _ | refine Hb.alloc ?_ | refine Hb.drew ?_ | refine Hb.ext (by assumption) ?_ | exact Hb.setSameL (by first | omega | (simp only [size_alloc, size_setB, size_drew]; omega)) | exact Hb.setSame (by assumption) | refine Hb.set (by first | omega | (simp only [size_alloc, size_setB, size_drew]; omega)) ?_ ))) (by first | omega | assumption | rfl | decide | exact Nat.le_refl _ | (simp only [size_ic, Value.cells]; omega) | (simp [encWs]; done) | (simp; omega) | simp | exact encYA_sz (by assumption) | exact encYT_sz (by assumption) | exact encYM_sz (by assumption)) (Xt.h (by first | assumption | exact Xt.whole rfl rfl | exact Xt.whole rfl (by assumption) | exact Xt.whole rfl (by simp only [size_ic, Value.cells]; omega) | exact ⟨rfl⟩)) ?_
                                              refine WH_p (PS_move_slice rfl) rfl ?_
                                              refine WH_call Hvac.call207 (by rfl) (Ret.mono (tloadS (OmB.ext hO (by repeat (first | assumption | exact Ext.refl _ | refine Ext.alloc ?_ _ | refine Ext.drew ?_ | refine Ext.setB ?_ (by first | omega | (simp only [size_alloc, size_setB, size_drew]; omega)) _ | exact Ext.trans (by assumption) (by assumption) | refine Ext.trans ?_ (by assumption)))) (by first | assumption | exact YSS.ext (by assumption) (by repeat (first | assumption | exact Ext.refl _ | refine Ext.alloc ?_ _ | refine Ext.drew ?_ | refine Ext.setB ?_ (by first | omega | (simp only [size_alloc, size_setB, size_drew]; omega)) _ | exact Ext.trans (by assumption) (by assumption) | refine Ext.trans ?_ (by assumption)))) hB (by omega) hFR.sb (by first | exact NN.nil _ | assumption | exact NN.ext (by assumption) (by repeat (first | assumption | exact Ext.refl _ | refine Ext.alloc ?_ _ | refine Ext.drew ?_ | refine Ext.setB ?_ (by first | omega | (simp only [size_alloc, size_setB, size_drew]; omega)) _ | exact Ext.trans (by assumption) (by assumption) | refine Ext.trans ?_ (by assumption)))) (by first | assumption | omega | (rw [sz_zero]; omega))) ?_)
                                              rintro _ w207_69 ⟨hE207_69, s207_69, rfl, hN207_69, hs207_69⟩
                                              refine ⟨(fun h => by cases h), ?_⟩
                                              have hz207_69 := hE207_69.1
                                              try simp only [size_alloc, size_setB, size_drew] at hz207_69
                                              refine WH_p (PS_assign_slice rfl) rfl ?_
                                              refine WH_nil ?_
                                              refine thn_normal ?_
                                              refine W_ret ?_
                                              refine inBlk_ret ?_
                                              refine thn_ret ?_
                                              refine bodyQ_ret1 Hvac.results126 rfl (.slice _ _ _) rfl ?_
                                              have e8 : yvst y f o l = y := (by unfold yvst; rw [if_neg (by omega), if_neg (by omega)]); rw [e8]; subst ho5; exact ⟨(_, _, _), x, rfl, (SStep.refl hX.ss).extR (by repeat (first | assumption | exact Ext.refl _ | refine Ext.alloc ?_ _ | refine Ext.drew ?_ | refine Ext.setB ?_ (by first | omega | (simp only [size_alloc, size_setB, size_drew]; omega)) _ | refine Ext.trans ?_ (by assumption))), rfl, rfl, NN.castY (by first | exact NN.nil _ | assumption | exact NN.ext (by assumption) (by repeat (first | assumption | exact Ext.refl _ | refine Ext.alloc ?_ _ | refine Ext.drew ?_ | refine Ext.setB ?_ (by first | omega | (simp only [size_alloc, size_setB, size_drew]; omega)) _ | exact Ext.trans (by assumption) (by assumption) | refine Ext.trans ?_ (by assumption)))) (by simp [yval] <;> omega)⟩
                                            · have hb69p := hb69.h; try simp only [al_ete, al_dfn, Bool.not_eq_true', Bool.not_eq_false', al_ne, Bool.not_not, al_nn] at hb69p
                                              refine W_seq ?_
                                              refine W_region rfl ?_
                                              refine WO_p (PS_eql rfl rfl) ?_
                                              refine WO_p (PS_assign_bool rfl) ?_
                                              refine WO_nil ?_
                                              refine thn_normal ?_
                                              refine W_if rfl (fun hb72 => ?_) (fun hb72 => ?_)
                                              · have hb72p := hb72.h; try simp only [al_ete, al_dfn, Bool.not_eq_true', Bool.not_eq_false', al_ne, Bool.not_not, al_nn] at hb72p
                                                have ho5 : o = 88 := by omega
                                                refine W_seq ?_
                                                refine W_region rfl ?_
                                                refine WO_p (PS_move_ptr rfl) ?_
                                                refine WO_p (PS_nilCheck rfl) ?_
                                                refine WO_p (PS_fieldAddr 3 Hvac.runUnderlying121 rfl Hvac.sizeOf92 rfl rfl) ?_
                                                refine WO_load (.slice _ _ _) Hvac.isAgg92 rfl (Hb.h (by repeat (first | assumption | exact Hb.newY _ _ | refine Hb.alloc ?_ | refine Hb.drew ?_ | refine Hb.ext (by assumption) ?_ | exact Hb.setSameL (by first | omega | (simp only [size_alloc, size_setB, size_drew]; omega)) | exact Hb.setSame (by assumption) | refine Hb.set (by first | omega | (simp only [size_alloc, size_setB, size_drew]; omega)) ?_ ))) (Ce.h (by first | assumption | exact ⟨rfl⟩)) ?_
                                                refine WO_call Hvac.call79 (by rfl) (Ret.mono (nNorm_spec (OmB.ext hO (by repeat (first | assumption | exact Ext.refl _ | refine Ext.alloc ?_ _ | refine Ext.drew ?_ | refine Ext.setB ?_ (by first | omega | (simp only [size_alloc, size_setB, size_drew]; omega)) _ | exact Ext.trans (by assumption) (by assumption) | refine Ext.trans ?_ (by assumption)))) (by first | exact NN.nil _ | assumption | exact NN.ext (by assumption) (by repeat (first | assumption | exact Ext.refl _ | refine Ext.alloc ?_ _ | refine Ext.drew ?_ | refine Ext.setB ?_ (by first | omega | (simp only [size_alloc, size_setB, size_drew]; omega)) _ | exact Ext.trans (by assumption) (by assumption) | refine Ext.trans ?_ (by assumption)))) (by first | assumption | omega | (rw [sz_zero]; omega))) ?_)
                                                rintro _ w79_72 ⟨hE79_72, s79_72, rfl, hN79_72⟩
                                                have hz79_72 := hE79_72.1
                                                try simp only [size_alloc, size_setB, size_drew] at hz79_72
                                                refine WO_p (PS_assign_slice rfl) ?_
                                                refine WO_nil ?_
                                                refine thn_normal ?_
                                                refine W_ret ?_
                                                refine inBlk_ret ?_
                                                refine thn_ret ?_
                                                refine bodyQ_ret1 Hvac.results126 rfl (.slice _ _ _) rfl ?_
                                                have e8 : yvst y f o l = y := (by unfold yvst; rw [if_neg (by omega), if_neg (by omega)]); rw [e8]; subst ho5; exact ⟨(_, _, _), x, rfl, (SStep.refl hX.ss).extR (by repeat (first | assumption | exact Ext.refl _ | refine Ext.alloc ?_ _ | refine Ext.drew ?_ | refine Ext.setB ?_ (by first | omega | (simp only [size_alloc, size_setB, size_drew]; omega)) _ | refine Ext.trans ?_ (by assumption))), rfl, rfl, NN.castY (by first | exact NN.nil _ | assumption | exact NN.ext (by assumption) (by repeat (first | assumption | exact Ext.refl _ | refine Ext.alloc ?_ _ | refine Ext.drew ?_ | refine Ext.setB ?_ (by first | omega | (simp only [size_alloc, size_setB, size_drew]; omega)) _ | exact Ext.trans (by assumption) (by assumption) | refine Ext.trans ?_ (by assumption)))) (by simp [yval] <;> omega)⟩
                                              · have hb72p := hb72.h; try simp only [al_ete, al_dfn, Bool.not_eq_true', Bool.not_eq_false', al_ne, Bool.not_not, al_nn] at hb72p
                                                refine W_seq ?_
                                                refine W_region rfl ?_
                                                refine WO_p (PS_eql rfl rfl) ?_
                                                refine WO_p (PS_assign_bool rfl) ?_
                                                refine WO_nil ?_
                                                refine thn_normal ?_
                                                refine W_if rfl (fun hb75 => ?_) (fun hb75 => ?_)
                                                · have hb75p := hb75.h; try simp only [al_ete, al_dfn, Bool.not_eq_true', Bool.not_eq_false', al_ne, Bool.not_not, al_nn] at hb75p
                                                  have ho5 : o = 89 := by omega
                                                  refine W_seq ?_
                                                  refine W_region rfl ?_
                                                  refine WO_p (PS_move_ptr rfl) ?_
                                                  refine WO_p (PS_nilCheck rfl) ?_
                                                  refine WO_p (PS_fieldAddr 9 Hvac.runUnderlying121 rfl Hvac.sizeOf32 rfl rfl) ?_
                                                  refine WO_load (.slice _ _ _) Hvac.isAgg32 rfl (Hb.h (by repeat (first | assumption | exact Hb.newY _ _ | refine Hb.alloc ?_ | refine Hb.drew ?_ | refine Hb.ext (by assumption) ?_ | exact Hb.setSameL (by first | omega | (simp only [size_alloc, size_setB, size_drew]; omega)) | exact Hb.setSame (by assumption) | refine Hb.set (by first | omega | (simp only [size_alloc, size_setB, size_drew]; omega)) ?_ ))) (Ce.h (by first | assumption | exact ⟨rfl⟩)) ?_
                                                  refine WO_p (PS_lenS Hvac.runUnderlying32 rfl) ?_
                                                  refine WO_p (PS_conv_u64n Hvac.runUnderlying3 Hvac.runUnderlying26 rfl (by omega) (by omega)) ?_
                                                  refine WO_call Hvac.call19 (by rfl) (Ret.mono (nNum_spec (OmB.ext hO (by repeat (first | assumption | exact Ext.refl _ | refine Ext.alloc ?_ _ | refine Ext.drew ?_ | refine Ext.setB ?_ (by first | omega | (simp only [size_alloc, size_setB, size_drew]; omega)) _ | exact Ext.trans (by assumption) (by assumption) | refine Ext.trans ?_ (by assumption)))) ⟨by omega, by omega⟩) ?_)
                                                  rintro _ w19_75 ⟨hE19_75, s19_75, rfl, hN19_75, hs19_75⟩
                                                  have hz19_75 := hE19_75.1
                                                  try simp only [size_alloc, size_setB, size_drew] at hz19_75
                                                  try simp only [Int.toNat_natCast, toNat_lit] at hN19_75 hs19_75
                                                  try simp only [show Int.toNat 1 = 1 from rfl, show Int.toNat 32 = 32 from rfl] at hN19_75 hs19_75
                                                  refine WO_p (PS_assign_slice rfl) ?_
                                                  refine WO_nil ?_
                                                  refine thn_normal ?_
                                                  refine W_ret ?_
                                                  refine inBlk_ret ?_
                                                  refine thn_ret ?_
                                                  refine bodyQ_ret1 Hvac.results126 rfl (.slice _ _ _) rfl ?_
                                                  have e8 : yvst y f o l = y := (by unfold yvst; rw [if_neg (by omega), if_neg (by omega)]); rw [e8]; subst ho5; exact ⟨(_, _, _), x, rfl, (SStep.refl hX.ss).extR (by repeat (first | assumption | exact Ext.refl _ | refine Ext.alloc ?_ _ | refine Ext.drew ?_ | refine Ext.setB ?_ (by first | omega | (simp only [size_alloc, size_setB, size_drew]; omega)) _ | refine Ext.trans ?_ (by assumption))), rfl, rfl, NN.castY (by first | exact NN.nil _ | assumption | exact NN.ext (by assumption) (by repeat (first | assumption | exact Ext.refl _ | refine Ext.alloc ?_ _ | refine Ext.drew ?_ | refine Ext.setB ?_ (by first | omega | (simp only [size_alloc, size_setB, size_drew]; omega)) _ | exact Ext.trans (by assumption) (by assumption) | refine Ext.trans ?_ (by assumption)))) (by simp [yval] <;> omega)⟩
                                                · have hb75p := hb75.h; try simp only [al_ete, al_dfn, Bool.not_eq_true', Bool.not_eq_false', al_ne, Bool.not_not, al_nn] at hb75p
                                                  have ho5 : o = 90 := by omega
                                                  refine W_seq ?_
                                                  refine W_region rfl ?_
                                                  refine WO_p (PS_eql rfl rfl) ?_
                                                  refine WO_p (PS_assign_bool rfl) ?_
                                                  refine WO_nil ?_
                                                  refine thn_normal ?_
                                                  refine W_if rfl (fun hb78 => ?_) (fun hb78 => ?_)
                                                  · have hb78p := hb78.h; try simp only [al_ete, al_dfn, Bool.not_eq_true', Bool.not_eq_false', al_ne, Bool.not_not, al_nn] at hb78p
                                                    refine W_seq ?_
                                                    refine W_region rfl ?_
                                                    refine WO_p (PS_move_ptr rfl) ?_
                                                    refine WO_p (PS_nilCheck rfl) ?_
                                                    refine WO_p (PS_fieldAddr 4 Hvac.runUnderlying121 rfl Hvac.sizeOf92 rfl rfl) ?_
                                                    refine WO_load (.slice _ _ _) Hvac.isAgg92 rfl (Hb.h (by repeat (first | assumption | exact Hb.newY _ _ | refine Hb.alloc ?_ | refine Hb.drew ?_ | refine Hb.ext (by assumption) ?_ | exact Hb.setSameL (by first | omega | (simp only [size_alloc, size_setB, size_drew]; omega)) | exact Hb.setSame (by assumption) | refine Hb.set (by first | omega | (simp only [size_alloc, size_setB, size_drew]; omega)) ?_ ))) (Ce.h (by first | assumption | exact ⟨rfl⟩)) ?_
                                                    refine WO_call Hvac.call79 (by rfl) (Ret.mono (nNorm_spec (OmB.ext hO (by repeat (first | assumption | exact Ext.refl _ | refine Ext.alloc ?_ _ | refine Ext.drew ?_ | refine Ext.setB ?_ (by first | omega | (simp only [size_alloc, size_setB, size_drew]; omega)) _ | exact Ext.trans (by assumption) (by assumption) | refine Ext.trans ?_ (by assumption)))) (by first | exact NN.nil _ | assumption | exact NN.ext (by assumption) (by repeat (first | assumption | exact Ext.refl _ | refine Ext.alloc ?_ _ | refine Ext.drew ?_ | refine Ext.setB ?_ (by first | omega | (simp only [size_alloc, size_setB, size_drew]; omega)) _ | exact Ext.trans (by assumption) (by assumption) | refine Ext.trans ?_ (by assumption)))) (by first | assumption | omega | (rw [sz_zero]; omega))) ?_)
                                                    rintro _ w79_78 ⟨hE79_78, s79_78, rfl, hN79_78⟩
                                                    have hz79_78 := hE79_78.1
                                                    try simp only [size_alloc, size_setB, size_drew] at hz79_78
                                                    refine WO_p (PS_assign_slice rfl) ?_
                                                    refine WO_nil ?_
                                                    refine thn_normal ?_
                                                    refine W_ret ?_
                                                    refine inBlk_ret ?_
                                                    refine thn_ret ?_
                                                    refine bodyQ_ret1 Hvac.results126 rfl (.slice _ _ _) rfl ?_
                                                    have e8 : yvst y f o l = y := (by unfold yvst; rw [if_neg (by omega), if_neg (by omega)]); rw [e8]; subst ho5; exact ⟨(_, _, _), x, rfl, (SStep.refl hX.ss).extR (by repeat (first | assumption | exact Ext.refl _ | refine Ext.alloc ?_ _ | refine Ext.drew ?_ | refine Ext.setB ?_ (by first | omega | (simp only [size_alloc, size_setB, size_drew]; omega)) _ | refine Ext.trans ?_ (by assumption))), rfl, rfl, NN.castY (by first | exact NN.nil _ | assumption | exact NN.ext (by assumption) (by repeat (first | assumption | exact Ext.refl _ | refine Ext.alloc ?_ _ | refine Ext.drew ?_ | refine Ext.setB ?_ (by first | omega | (simp only [size_alloc, size_setB, size_drew]; omega)) _ | exact Ext.trans (by assumption) (by assumption) | refine Ext.trans ?_ (by assumption)))) (by simp [yval] <;> omega)⟩
                                                  · have hb78p := hb78.h; try simp only [al_ete, al_dfn, Bool.not_eq_true', Bool.not_eq_false', al_ne, Bool.not_not, al_nn] at hb78p
                                                    exfalso; omega
        · have hb24p := hb24.h; try simp only [al_ete, al_dfn, Bool.not_eq_true', Bool.not_eq_false', al_ne, Bool.not_not, al_nn] at hb24p
          refine WO_guardF rfl rfl hb24.h ?_
          refine WO_guardF rfl rfl hb24.h ?_
          refine WO_p (PS_pickF rfl hb24.h rfl) ?_
          refine WO_p (PS_assign_bool rfl) ?_
          refine WO_nil ?_
          refine thn_normal ?_
          refine W_condF rfl rfl ?_
          refine W_region rfl ?_
          refine WO_p (PS_move_int rfl) ?_
          refine WO_p (PS_eql rfl rfl) ?_
          refine WO_p (PS_assign_bool rfl) ?_
          refine WO_nil ?_
          refine thn_normal ?_
          refine W_if rfl (fun hb81 => ?_) (fun hb81 => ?_)
          · have hb81p := hb81.h; try simp only [al_ete, al_dfn, Bool.not_eq_true', Bool.not_eq_false', al_ne, Bool.not_not, al_nn] at hb81p
            exfalso; omega
          · have hb81p := hb81.h; try simp only [al_ete, al_dfn, Bool.not_eq_true', Bool.not_eq_false', al_ne, Bool.not_not, al_nn] at hb81p
            refine W_seq ?_
            refine W_seq ?_
            refine W_region rfl ?_
            refine WO_p (PS_move_int rfl) ?_
            refine WO_p (PS_eql rfl rfl) ?_
            refine WO_p (PS_assign_bool rfl) ?_
            refine WO_nil ?_
            refine thn_normal ?_
            refine W_if rfl (fun hb83 => ?_) (fun hb83 => ?_)
            · have hb83p := hb83.h; try simp only [al_ete, al_dfn, Bool.not_eq_true', Bool.not_eq_false', al_ne, Bool.not_not, al_nn] at hb83p
              have ho5 : o = 49 := by omega
              refine W_skip ?_
              refine thn_normal ?_
              refine W_condT rfl hb83.h ?_
              refine W_seq ?_
              refine W_drawE [false, false, false, false, false, false] hmix (by kernel_rfl) rfl ?_
              refine WH_p (PS_move_ptr rfl) rfl ?_
              refine WH_p (PS_nilCheck rfl) rfl ?_
              refine WH_p (PS_fieldAddr 0 Hvac.runUnderlying99 rfl Hvac.sizeOf95 rfl rfl) rfl ?_
              refine WH_p (PS_move_slice rfl) rfl ?_
              refine WH_call Hvac.call121 (by rfl) (Ret.mono (yAddrOf_spec _ (OmB.ext hO (by repeat (first | assumption | exact Ext.refl _ | refine Ext.alloc ?_ _ | refine Ext.drew ?_ | refine Ext.setB ?_ (by first | omega | (simp only [size_alloc, size_setB, size_drew]; omega)) _ | exact Ext.trans (by assumption) (by assumption) | refine Ext.trans ?_ (by assumption)))) _ _ _ _ (by first | exact NN.nil _ | assumption | exact NN.ext (by assumption) (by repeat (first | assumption | exact Ext.refl _ | refine Ext.alloc ?_ _ | refine Ext.drew ?_ | refine Ext.setB ?_ (by first | omega | (simp only [size_alloc, size_setB, size_drew]; omega)) _ | exact Ext.trans (by assumption) (by assumption) | refine Ext.trans ?_ (by assumption)))) (by first | assumption | omega | (rw [sz_zero]; omega))) ?_)
              rintro _ w121_83 ⟨hE121_83, rfl⟩
              refine ⟨(fun h => by cases h), ?_⟩
              have hz121_83 := hE121_83.1
              try simp only [size_alloc, size_setB, size_drew] at hz121_83
              refine WH_call Hvac.call27 (by rfl) (Ret.mono (warmS_ (OmB.ext hO (by repeat (first | assumption | exact Ext.refl _ | refine Ext.alloc ?_ _ | refine Ext.drew ?_ | refine Ext.setB ?_ (by first | omega | (simp only [size_alloc, size_setB, size_drew]; omega)) _ | exact Ext.trans (by assumption) (by assumption) | refine Ext.trans ?_ (by assumption)))) (by first | assumption | exact YSS.ext (by assumption) (by repeat (first | assumption | exact Ext.refl _ | refine Ext.alloc ?_ _ | refine Ext.drew ?_ | refine Ext.setB ?_ (by first | omega | (simp only [size_alloc, size_setB, size_drew]; omega)) _ | exact Ext.trans (by assumption) (by assumption) | refine Ext.trans ?_ (by assumption)))) hB (by omega) (yaddr_by _)) ?_)
              rintro _ w16 ⟨rfl, s16, hT16⟩
              refine ⟨(fun h => by cases h), ?_⟩
              have hTa16 : SStep w w16 C (xsWarmA x s16) (ysWarmA y (ywith y.now.warmA (yaddr (l.getD 0 0)))) := SStep.pre (by repeat (first | assumption | exact Ext.refl _ | refine Ext.alloc ?_ _ | refine Ext.drew ?_ | refine Ext.setB ?_ (by first | omega | (simp only [size_alloc, size_setB, size_drew]; omega)) _ | refine Ext.trans ?_ (by assumption))) hT16
              have hX16 := hX.sstep hTa16 rfl rfl
              have hM16 := hFM.cs hX.ss.blk hX.ss.om hTa16.keep
              have hS16 := hM16.s0
              have hSS16 := hX16.ss
              have hSb16 := hSS16.blk
              have hSl16 := hSb16.lt
              have hFb16 := hM16.blk
              have hFl16 := hFb16.lt
              replace hO := hX16.omb
              have hz16 := hTa16.keep.sz
              have hzs16 := encYS_size (xsWarmA x s16)
              have hNsa16 := (NN.ext hNsa (by repeat (first | assumption | exact Ext.refl _ | refine Ext.alloc ?_ _ | refine Ext.drew ?_ | refine Ext.setB ?_ (by first | omega | (simp only [size_alloc, size_setB, size_drew]; omega)) _ | refine Ext.trans ?_ (by assumption)))).keep hT16.ko
              have hB16 := hB.warmA (yaddr (l.getD 0 0))
              have hcl17 := hB.now.cd.acct (yaddr (l.getD 0 0))
              refine WH_nil ?_
              refine thn_normal ?_
              refine W_seq ?_
              refine W_drawE [false, false, false, false, false, false, false, false, false] hmix (by kernel_rfl) rfl ?_
              refine WH_p (PS_move_ptr rfl) rfl ?_
              refine WH_p (PS_nilCheck rfl) rfl ?_
              refine WH_p (PS_fieldAddr 0 Hvac.runUnderlying99 rfl Hvac.sizeOf95 rfl rfl) rfl ?_
              refine WH_p (PS_move_slice rfl) rfl ?_
              refine WH_call Hvac.call121 (by rfl) (Ret.mono (yAddrOf_spec _ (OmB.ext hO (by repeat (first | assumption | exact Ext.refl _ | refine Ext.alloc ?_ _ | refine Ext.drew ?_ | refine Ext.setB ?_ (by first | omega | (simp only [size_alloc, size_setB, size_drew]; omega)) _ | exact Ext.trans (by assumption) (by assumption) | refine Ext.trans ?_ (by assumption)))) _ _ _ _ (by first | exact NN.nil _ | assumption | exact NN.ext (by assumption) (by repeat (first | assumption | exact Ext.refl _ | refine Ext.alloc ?_ _ | refine Ext.drew ?_ | refine Ext.setB ?_ (by first | omega | (simp only [size_alloc, size_setB, size_drew]; omega)) _ | exact Ext.trans (by assumption) (by assumption) | refine Ext.trans ?_ (by assumption)))) (by first | assumption | omega | (rw [sz_zero]; omega))) ?_)
              rintro _ w121_85 ⟨hE121_85, rfl⟩
              refine ⟨(fun h => by cases h), ?_⟩
              have hz121_85 := hE121_85.1
              try simp only [size_alloc, size_setB, size_drew] at hz121_85
              refine WH_call Hvac.call17 (by rfl) (Ret.mono (acctS (OmB.ext hO (by repeat (first | assumption | exact Ext.refl _ | refine Ext.alloc ?_ _ | refine Ext.drew ?_ | refine Ext.setB ?_ (by first | omega | (simp only [size_alloc, size_setB, size_drew]; omega)) _ | exact Ext.trans (by assumption) (by assumption) | refine Ext.trans ?_ (by assumption)))) (by first | assumption | exact YSS.ext (by assumption) (by repeat (first | assumption | exact Ext.refl _ | refine Ext.alloc ?_ _ | refine Ext.drew ?_ | refine Ext.setB ?_ (by first | omega | (simp only [size_alloc, size_setB, size_drew]; omega)) _ | exact Ext.trans (by assumption) (by assumption) | refine Ext.trans ?_ (by assumption)))) hB16 (by omega) (yaddr_by (l.getD 0 0))) ?_)
              rintro _ w17 ⟨hE17, x17, rfl, hxa17, hxr17⟩
              refine ⟨(fun h => by cases h), ?_⟩
              have hz17 := hE17.1
              try simp only [size_alloc, size_setB, size_drew] at hz17
              refine WH_p (PS_move_int rfl) rfl ?_
              refine WH_call Hvac.call205 (by rfl) (Ret.mono (yAcVal_spec _ (OmB.ext hO (by repeat (first | assumption | exact Ext.refl _ | refine Ext.alloc ?_ _ | refine Ext.drew ?_ | refine Ext.setB ?_ (by first | omega | (simp only [size_alloc, size_setB, size_drew]; omega)) _ | exact Ext.trans (by assumption) (by assumption) | refine Ext.trans ?_ (by assumption)))) ks hK x17 (yacct y.now.accts (yaddr (l.getD 0 0))) (AcR.ext hxr17 (by repeat (first | assumption | exact Ext.refl _ | refine Ext.alloc ?_ _ | refine Ext.drew ?_ | refine Ext.setB ?_ (by first | omega | (simp only [size_alloc, size_setB, size_drew]; omega)) _ | exact Ext.trans (by assumption) (by assumption) | refine Ext.trans ?_ (by assumption)))) hcl17 _ (by omega)) ?_)
              rintro _ w205_87 ⟨hE205_87, s205_87, rfl, hN205_87⟩
              refine ⟨(fun h => by cases h), ?_⟩
              have hz205_87 := hE205_87.1
              try simp only [size_alloc, size_setB, size_drew] at hz205_87
              refine WH_p (PS_assign_slice rfl) rfl ?_
              refine WH_nil ?_
              refine thn_normal ?_
              refine W_ret ?_
              refine inBlk_ret ?_
              refine thn_ret ?_
              refine bodyQ_ret1 Hvac.results126 rfl (.slice _ _ _) rfl ?_
              have e8 : yvst y f o l = ysWarmA y (ywith y.now.warmA (yaddr (l.getD 0 0))) := (by unfold yvst; rw [if_pos (by omega)]); rw [e8]; exact ⟨(_, _, _), xsWarmA x s16, rfl, hTa16.extR (by repeat (first | assumption | exact Ext.refl _ | refine Ext.alloc ?_ _ | refine Ext.drew ?_ | refine Ext.setB ?_ (by first | omega | (simp only [size_alloc, size_setB, size_drew]; omega)) _ | refine Ext.trans ?_ (by assumption))), rfl, rfl, NN.castY (by first | exact NN.nil _ | assumption | exact NN.ext (by assumption) (by repeat (first | assumption | exact Ext.refl _ | refine Ext.alloc ?_ _ | refine Ext.drew ?_ | refine Ext.setB ?_ (by first | omega | (simp only [size_alloc, size_setB, size_drew]; omega)) _ | exact Ext.trans (by assumption) (by assumption) | refine Ext.trans ?_ (by assumption)))) (by unfold yval; rw [if_neg (by omega), if_neg (by omega), if_pos (by omega)]; first | done | rfl)⟩
            · have hb83p := hb83.h; try simp only [al_ete, al_dfn, Bool.not_eq_true', Bool.not_eq_false', al_ne, Bool.not_not, al_nn] at hb83p
              refine W_seq ?_
              refine W_region rfl ?_
              refine WO_p (PS_move_int rfl) ?_
              refine WO_p (PS_eql rfl rfl) ?_
              refine WO_p (PS_assign_bool rfl) ?_
              refine WO_nil ?_
              refine thn_normal ?_
              refine W_if rfl (fun hb90 => ?_) (fun hb90 => ?_)
              · have hb90p := hb90.h; try simp only [al_ete, al_dfn, Bool.not_eq_true', Bool.not_eq_false', al_ne, Bool.not_not, al_nn] at hb90p
                have ho5 : o = 59 := by omega
                refine W_skip ?_
                refine thn_normal ?_
                refine W_condT rfl hb90.h ?_
                refine W_seq ?_
                refine W_drawE [false, false, false, false, false, false] hmix (by kernel_rfl) rfl ?_
                refine WH_p (PS_move_ptr rfl) rfl ?_
                refine WH_p (PS_nilCheck rfl) rfl ?_
                refine WH_p (PS_fieldAddr 0 Hvac.runUnderlying99 rfl Hvac.sizeOf95 rfl rfl) rfl ?_
                refine WH_p (PS_move_slice rfl) rfl ?_
                refine WH_call Hvac.call121 (by rfl) (Ret.mono (yAddrOf_spec _ (OmB.ext hO (by repeat (first | assumption | exact Ext.refl _ | refine Ext.alloc ?_ _ | refine Ext.drew ?_ | refine Ext.setB ?_ (by first | omega | (simp only [size_alloc, size_setB, size_drew]; omega)) _ | exact Ext.trans (by assumption) (by assumption) | refine Ext.trans ?_ (by assumption)))) _ _ _ _ (by first | exact NN.nil _ | assumption | exact NN.ext (by assumption) (by repeat (first | assumption | exact Ext.refl _ | refine Ext.alloc ?_ _ | refine Ext.drew ?_ | refine Ext.setB ?_ (by first | omega | (simp only [size_alloc, size_setB, size_drew]; omega)) _ | exact Ext.trans (by assumption) (by assumption) | refine Ext.trans ?_ (by assumption)))) (by first | assumption | omega | (rw [sz_zero]; omega))) ?_)
                rintro _ w121_90 ⟨hE121_90, rfl⟩
                refine ⟨(fun h => by cases h), ?_⟩
                have hz121_90 := hE121_90.1
                try simp only [size_alloc, size_setB, size_drew] at hz121_90
                refine WH_call Hvac.call27 (by rfl) (Ret.mono (warmS_ (OmB.ext hO (by repeat (first | assumption | exact Ext.refl _ | refine Ext.alloc ?_ _ | refine Ext.drew ?_ | refine Ext.setB ?_ (by first | omega | (simp only [size_alloc, size_setB, size_drew]; omega)) _ | exact Ext.trans (by assumption) (by assumption) | refine Ext.trans ?_ (by assumption)))) (by first | assumption | exact YSS.ext (by assumption) (by repeat (first | assumption | exact Ext.refl _ | refine Ext.alloc ?_ _ | refine Ext.drew ?_ | refine Ext.setB ?_ (by first | omega | (simp only [size_alloc, size_setB, size_drew]; omega)) _ | exact Ext.trans (by assumption) (by assumption) | refine Ext.trans ?_ (by assumption)))) hB (by omega) (yaddr_by _)) ?_)
                rintro _ w16 ⟨rfl, s16, hT16⟩
                refine ⟨(fun h => by cases h), ?_⟩
                have hTa16 : SStep w w16 C (xsWarmA x s16) (ysWarmA y (ywith y.now.warmA (yaddr (l.getD 0 0)))) := SStep.pre (by repeat (first | assumption | exact Ext.refl _ | refine Ext.alloc ?_ _ | refine Ext.drew ?_ | refine Ext.setB ?_ (by first | omega | (simp only [size_alloc, size_setB, size_drew]; omega)) _ | refine Ext.trans ?_ (by assumption))) hT16
                have hX16 := hX.sstep hTa16 rfl rfl
                have hM16 := hFM.cs hX.ss.blk hX.ss.om hTa16.keep
                have hS16 := hM16.s0
                have hSS16 := hX16.ss
                have hSb16 := hSS16.blk
                have hSl16 := hSb16.lt
                have hFb16 := hM16.blk
                have hFl16 := hFb16.lt
                replace hO := hX16.omb
                have hz16 := hTa16.keep.sz
                have hzs16 := encYS_size (xsWarmA x s16)
                have hNsa16 := (NN.ext hNsa (by repeat (first | assumption | exact Ext.refl _ | refine Ext.alloc ?_ _ | refine Ext.drew ?_ | refine Ext.setB ?_ (by first | omega | (simp only [size_alloc, size_setB, size_drew]; omega)) _ | refine Ext.trans ?_ (by assumption)))).keep hT16.ko
                have hB16 := hB.warmA (yaddr (l.getD 0 0))
                have hcl17 := hB.now.cd.acct (yaddr (l.getD 0 0))
                refine WH_nil ?_
                refine thn_normal ?_
                refine W_seq ?_
                refine W_drawE [false, false, false, false, false, false, false, false, false] hmix (by kernel_rfl) rfl ?_
                refine WH_p (PS_move_ptr rfl) rfl ?_
                refine WH_p (PS_nilCheck rfl) rfl ?_
                refine WH_p (PS_fieldAddr 0 Hvac.runUnderlying99 rfl Hvac.sizeOf95 rfl rfl) rfl ?_
                refine WH_p (PS_move_slice rfl) rfl ?_
                refine WH_call Hvac.call121 (by rfl) (Ret.mono (yAddrOf_spec _ (OmB.ext hO (by repeat (first | assumption | exact Ext.refl _ | refine Ext.alloc ?_ _ | refine Ext.drew ?_ | refine Ext.setB ?_ (by first | omega | (simp only [size_alloc, size_setB, size_drew]; omega)) _ | exact Ext.trans (by assumption) (by assumption) | refine Ext.trans ?_ (by assumption)))) _ _ _ _ (by first | exact NN.nil _ | assumption | exact NN.ext (by assumption) (by repeat (first | assumption | exact Ext.refl _ | refine Ext.alloc ?_ _ | refine Ext.drew ?_ | refine Ext.setB ?_ (by first | omega | (simp only [size_alloc, size_setB, size_drew]; omega)) _ | exact Ext.trans (by assumption) (by assumption) | refine Ext.trans ?_ (by assumption)))) (by first | assumption | omega | (rw [sz_zero]; omega))) ?_)
                rintro _ w121_92 ⟨hE121_92, rfl⟩
                refine ⟨(fun h => by cases h), ?_⟩
                have hz121_92 := hE121_92.1
                try simp only [size_alloc, size_setB, size_drew] at hz121_92
                refine WH_call Hvac.call17 (by rfl) (Ret.mono (acctS (OmB.ext hO (by repeat (first | assumption | exact Ext.refl _ | refine Ext.alloc ?_ _ | refine Ext.drew ?_ | refine Ext.setB ?_ (by first | omega | (simp only [size_alloc, size_setB, size_drew]; omega)) _ | exact Ext.trans (by assumption) (by assumption) | refine Ext.trans ?_ (by assumption)))) (by first | assumption | exact YSS.ext (by assumption) (by repeat (first | assumption | exact Ext.refl _ | refine Ext.alloc ?_ _ | refine Ext.drew ?_ | refine Ext.setB ?_ (by first | omega | (simp only [size_alloc, size_setB, size_drew]; omega)) _ | exact Ext.trans (by assumption) (by assumption) | refine Ext.trans ?_ (by assumption)))) hB16 (by omega) (yaddr_by (l.getD 0 0))) ?_)
                rintro _ w17 ⟨hE17, x17, rfl, hxa17, hxr17⟩
                refine ⟨(fun h => by cases h), ?_⟩
                have hz17 := hE17.1
                try simp only [size_alloc, size_setB, size_drew] at hz17
                refine WH_p (PS_move_int rfl) rfl ?_
                refine WH_call Hvac.call205 (by rfl) (Ret.mono (yAcVal_spec _ (OmB.ext hO (by repeat (first | assumption | exact Ext.refl _ | refine Ext.alloc ?_ _ | refine Ext.drew ?_ | refine Ext.setB ?_ (by first | omega | (simp only [size_alloc, size_setB, size_drew]; omega)) _ | exact Ext.trans (by assumption) (by assumption) | refine Ext.trans ?_ (by assumption)))) ks hK x17 (yacct y.now.accts (yaddr (l.getD 0 0))) (AcR.ext hxr17 (by repeat (first | assumption | exact Ext.refl _ | refine Ext.alloc ?_ _ | refine Ext.drew ?_ | refine Ext.setB ?_ (by first | omega | (simp only [size_alloc, size_setB, size_drew]; omega)) _ | exact Ext.trans (by assumption) (by assumption) | refine Ext.trans ?_ (by assumption)))) hcl17 _ (by omega)) ?_)
                rintro _ w205_94 ⟨hE205_94, s205_94, rfl, hN205_94⟩
                refine ⟨(fun h => by cases h), ?_⟩
                have hz205_94 := hE205_94.1
                try simp only [size_alloc, size_setB, size_drew] at hz205_94
                refine WH_p (PS_assign_slice rfl) rfl ?_
                refine WH_nil ?_
                refine thn_normal ?_
                refine W_ret ?_
                refine inBlk_ret ?_
                refine thn_ret ?_
                refine bodyQ_ret1 Hvac.results126 rfl (.slice _ _ _) rfl ?_
                have e8 : yvst y f o l = ysWarmA y (ywith y.now.warmA (yaddr (l.getD 0 0))) := (by unfold yvst; rw [if_pos (by omega)]); rw [e8]; exact ⟨(_, _, _), xsWarmA x s16, rfl, hTa16.extR (by repeat (first | assumption | exact Ext.refl _ | refine Ext.alloc ?_ _ | refine Ext.drew ?_ | refine Ext.setB ?_ (by first | omega | (simp only [size_alloc, size_setB, size_drew]; omega)) _ | refine Ext.trans ?_ (by assumption))), rfl, rfl, NN.castY (by first | exact NN.nil _ | assumption | exact NN.ext (by assumption) (by repeat (first | assumption | exact Ext.refl _ | refine Ext.alloc ?_ _ | refine Ext.drew ?_ | refine Ext.setB ?_ (by first | omega | (simp only [size_alloc, size_setB, size_drew]; omega)) _ | exact Ext.trans (by assumption) (by assumption) | refine Ext.trans ?_ (by assumption)))) (by unfold yval; rw [if_neg (by omega), if_neg (by omega), if_pos (by omega)]; first | done | rfl)⟩
              · have hb90p := hb90.h; try simp only [al_ete, al_dfn, Bool.not_eq_true', Bool.not_eq_false', al_ne, Bool.not_not, al_nn] at hb90p
                refine W_region rfl ?_
                refine WO_p (PS_move_int rfl) ?_
                refine WO_p (PS_eql rfl rfl) ?_
                refine WO_p (PS_assign_bool rfl) ?_
                refine WO_nil ?_
                refine thn_normal ?_
                refine W_if rfl (fun hb97 => ?_) (fun hb97 => ?_)
                · have hb97p := hb97.h; try simp only [al_ete, al_dfn, Bool.not_eq_true', Bool.not_eq_false', al_ne, Bool.not_not, al_nn] at hb97p
                  have ho5 : o = 63 := by omega
                  refine W_seq ?_
                  refine W_drawE [false, false, false, false, false, false] hmix (by kernel_rfl) rfl ?_
                  refine WH_p (PS_move_ptr rfl) rfl ?_
                  refine WH_p (PS_nilCheck rfl) rfl ?_
                  refine WH_p (PS_fieldAddr 0 Hvac.runUnderlying99 rfl Hvac.sizeOf95 rfl rfl) rfl ?_
                  refine WH_p (PS_move_slice rfl) rfl ?_
                  refine WH_call Hvac.call121 (by rfl) (Ret.mono (yAddrOf_spec _ (OmB.ext hO (by repeat (first | assumption | exact Ext.refl _ | refine Ext.alloc ?_ _ | refine Ext.drew ?_ | refine Ext.setB ?_ (by first | omega | (simp only [size_alloc, size_setB, size_drew]; omega)) _ | exact Ext.trans (by assumption) (by assumption) | refine Ext.trans ?_ (by assumption)))) _ _ _ _ (by first | exact NN.nil _ | assumption | exact NN.ext (by assumption) (by repeat (first | assumption | exact Ext.refl _ | refine Ext.alloc ?_ _ | refine Ext.drew ?_ | refine Ext.setB ?_ (by first | omega | (simp only [size_alloc, size_setB, size_drew]; omega)) _ | exact Ext.trans (by assumption) (by assumption) | refine Ext.trans ?_ (by assumption)))) (by first | assumption | omega | (rw [sz_zero]; omega))) ?_)
                  rintro _ w121_97 ⟨hE121_97, rfl⟩
                  refine ⟨(fun h => by cases h), ?_⟩
                  have hz121_97 := hE121_97.1
                  try simp only [size_alloc, size_setB, size_drew] at hz121_97
                  refine WH_call Hvac.call27 (by rfl) (Ret.mono (warmS_ (OmB.ext hO (by repeat (first | assumption | exact Ext.refl _ | refine Ext.alloc ?_ _ | refine Ext.drew ?_ | refine Ext.setB ?_ (by first | omega | (simp only [size_alloc, size_setB, size_drew]; omega)) _ | exact Ext.trans (by assumption) (by assumption) | refine Ext.trans ?_ (by assumption)))) (by first | assumption | exact YSS.ext (by assumption) (by repeat (first | assumption | exact Ext.refl _ | refine Ext.alloc ?_ _ | refine Ext.drew ?_ | refine Ext.setB ?_ (by first | omega | (simp only [size_alloc, size_setB, size_drew]; omega)) _ | exact Ext.trans (by assumption) (by assumption) | refine Ext.trans ?_ (by assumption)))) hB (by omega) (yaddr_by _)) ?_)
                  rintro _ w16 ⟨rfl, s16, hT16⟩
                  refine ⟨(fun h => by cases h), ?_⟩
                  have hTa16 : SStep w w16 C (xsWarmA x s16) (ysWarmA y (ywith y.now.warmA (yaddr (l.getD 0 0)))) := SStep.pre (by repeat (first | assumption | exact Ext.refl _ | refine Ext.alloc ?_ _ | refine Ext.drew ?_ | refine Ext.setB ?_ (by first | omega | (simp only [size_alloc, size_setB, size_drew]; omega)) _ | refine Ext.trans ?_ (by assumption))) hT16
                  have hX16 := hX.sstep hTa16 rfl rfl
                  have hM16 := hFM.cs hX.ss.blk hX.ss.om hTa16.keep
                  have hS16 := hM16.s0
                  have hSS16 := hX16.ss
                  have hSb16 := hSS16.blk
                  have hSl16 := hSb16.lt
                  have hFb16 := hM16.blk
                  have hFl16 := hFb16.lt
                  replace hO := hX16.omb
                  have hz16 := hTa16.keep.sz
                  have hzs16 := encYS_size (xsWarmA x s16)
                  have hNsa16 := (NN.ext hNsa (by repeat (first | assumption | exact Ext.refl _ | refine Ext.alloc ?_ _ | refine Ext.drew ?_ | refine Ext.setB ?_ (by first | omega | (simp only [size_alloc, size_setB, size_drew]; omega)) _ | refine Ext.trans ?_ (by assumption)))).keep hT16.ko
                  have hB16 := hB.warmA (yaddr (l.getD 0 0))
                  have hcl17 := hB.now.cd.acct (yaddr (l.getD 0 0))
                  refine WH_nil ?_
                  refine thn_normal ?_
                  refine W_seq ?_
                  refine W_drawE [false, false, false, false, false, false, false, false, false] hmix (by kernel_rfl) rfl ?_
                  refine WH_p (PS_move_ptr rfl) rfl ?_
                  refine WH_p (PS_nilCheck rfl) rfl ?_
                  refine WH_p (PS_fieldAddr 0 Hvac.runUnderlying99 rfl Hvac.sizeOf95 rfl rfl) rfl ?_
                  refine WH_p (PS_move_slice rfl) rfl ?_
                  refine WH_call Hvac.call121 (by rfl) (Ret.mono (yAddrOf_spec _ (OmB.ext hO (by repeat (first | assumption | exact Ext.refl _ | refine Ext.alloc ?_ _ | refine Ext.drew ?_ | refine Ext.setB ?_ (by first | omega | (simp only [size_alloc, size_setB, size_drew]; omega)) _ | exact Ext.trans (by assumption) (by assumption) | refine Ext.trans ?_ (by assumption)))) _ _ _ _ (by first | exact NN.nil _ | assumption | exact NN.ext (by assumption) (by repeat (first | assumption | exact Ext.refl _ | refine Ext.alloc ?_ _ | refine Ext.drew ?_ | refine Ext.setB ?_ (by first | omega | (simp only [size_alloc, size_setB, size_drew]; omega)) _ | exact Ext.trans (by assumption) (by assumption) | refine Ext.trans ?_ (by assumption)))) (by first | assumption | omega | (rw [sz_zero]; omega))) ?_)
                  rintro _ w121_99 ⟨hE121_99, rfl⟩
                  refine ⟨(fun h => by cases h), ?_⟩
                  have hz121_99 := hE121_99.1
                  try simp only [size_alloc, size_setB, size_drew] at hz121_99
                  refine WH_call Hvac.call17 (by rfl) (Ret.mono (acctS (OmB.ext hO (by repeat (first | assumption | exact Ext.refl _ | refine Ext.alloc ?_ _ | refine Ext.drew ?_ | refine Ext.setB ?_ (by first | omega | (simp only [size_alloc, size_setB, size_drew]; omega)) _ | exact Ext.trans (by assumption) (by assumption) | refine Ext.trans ?_ (by assumption)))) (by first | assumption | exact YSS.ext (by assumption) (by repeat (first | assumption | exact Ext.refl _ | refine Ext.alloc ?_ _ | refine Ext.drew ?_ | refine Ext.setB ?_ (by first | omega | (simp only [size_alloc, size_setB, size_drew]; omega)) _ | exact Ext.trans (by assumption) (by assumption) | refine Ext.trans ?_ (by assumption)))) hB16 (by omega) (yaddr_by (l.getD 0 0))) ?_)
                  rintro _ w17 ⟨hE17, x17, rfl, hxa17, hxr17⟩
                  refine ⟨(fun h => by cases h), ?_⟩
                  have hz17 := hE17.1
                  try simp only [size_alloc, size_setB, size_drew] at hz17
                  refine WH_p (PS_move_int rfl) rfl ?_
                  refine WH_call Hvac.call205 (by rfl) (Ret.mono (yAcVal_spec _ (OmB.ext hO (by repeat (first | assumption | exact Ext.refl _ | refine Ext.alloc ?_ _ | refine Ext.drew ?_ | refine Ext.setB ?_ (by first | omega | (simp only [size_alloc, size_setB, size_drew]; omega)) _ | exact Ext.trans (by assumption) (by assumption) | refine Ext.trans ?_ (by assumption)))) ks hK x17 (yacct y.now.accts (yaddr (l.getD 0 0))) (AcR.ext hxr17 (by repeat (first | assumption | exact Ext.refl _ | refine Ext.alloc ?_ _ | refine Ext.drew ?_ | refine Ext.setB ?_ (by first | omega | (simp only [size_alloc, size_setB, size_drew]; omega)) _ | exact Ext.trans (by assumption) (by assumption) | refine Ext.trans ?_ (by assumption)))) hcl17 _ (by omega)) ?_)
                  rintro _ w205_101 ⟨hE205_101, s205_101, rfl, hN205_101⟩
                  refine ⟨(fun h => by cases h), ?_⟩
                  have hz205_101 := hE205_101.1
                  try simp only [size_alloc, size_setB, size_drew] at hz205_101
                  refine WH_p (PS_assign_slice rfl) rfl ?_
                  refine WH_nil ?_
                  refine thn_normal ?_
                  refine W_ret ?_
                  refine inBlk_ret ?_
                  refine thn_ret ?_
                  refine bodyQ_ret1 Hvac.results126 rfl (.slice _ _ _) rfl ?_
                  have e8 : yvst y f o l = ysWarmA y (ywith y.now.warmA (yaddr (l.getD 0 0))) := (by unfold yvst; rw [if_pos (by omega)]); rw [e8]; exact ⟨(_, _, _), xsWarmA x s16, rfl, hTa16.extR (by repeat (first | assumption | exact Ext.refl _ | refine Ext.alloc ?_ _ | refine Ext.drew ?_ | refine Ext.setB ?_ (by first | omega | (simp only [size_alloc, size_setB, size_drew]; omega)) _ | refine Ext.trans ?_ (by assumption))), rfl, rfl, NN.castY (by first | exact NN.nil _ | assumption | exact NN.ext (by assumption) (by repeat (first | assumption | exact Ext.refl _ | refine Ext.alloc ?_ _ | refine Ext.drew ?_ | refine Ext.setB ?_ (by first | omega | (simp only [size_alloc, size_setB, size_drew]; omega)) _ | exact Ext.trans (by assumption) (by assumption) | refine Ext.trans ?_ (by assumption)))) (by unfold yval; rw [if_neg (by omega), if_neg (by omega), if_pos (by omega)]; first | done | rfl)⟩
                · have hb97p := hb97.h; try simp only [al_ete, al_dfn, Bool.not_eq_true', Bool.not_eq_false', al_ne, Bool.not_not, al_nn] at hb97p
                  refine W_skip ?_
                  refine inBlk_normal ?_
                  refine thn_normal ?_
                  refine W_seq ?_
                  refine W_seq ?_
                  refine W_region rfl ?_
                  refine WO_p (PS_move_int rfl) ?_
                  refine WO_nil ?_
                  refine thn_normal ?_
                  refine W_block ?_
                  refine W_seq ?_
                  refine W_region rfl ?_
                  refine WO_p (PS_eql rfl rfl) ?_
                  refine WO_p (PS_assign_bool rfl) ?_
                  refine WO_nil ?_
                  refine thn_normal ?_
                  refine W_if rfl (fun hb104 => ?_) (fun hb104 => ?_)
                  · have hb104p := hb104.h; try simp only [al_ete, al_dfn, Bool.not_eq_true', Bool.not_eq_false', al_ne, Bool.not_not, al_nn] at hb104p
                    have ho5 : o = 48 := by omega
                    refine W_seq ?_
                    refine W_region rfl ?_
                    refine WO_p (PS_move_ptr rfl) ?_
                    refine WO_p (PS_nilCheck rfl) ?_
                    refine WO_p (PS_fieldAddr 12 Hvac.runUnderlying121 rfl Hvac.sizeOf25 rfl rfl) ?_
                    refine WO_p (PS_slA Hvac.runUnderlying25 Hvac.sizeOf5 rfl (by omega)) ?_
                    refine WO_call Hvac.call29 (by rfl) (Ret.mono (nBE_spec (OmB.ext hO (by repeat (first | assumption | exact Ext.refl _ | refine Ext.alloc ?_ _ | refine Ext.drew ?_ | refine Ext.setB ?_ (by first | omega | (simp only [size_alloc, size_setB, size_drew]; omega)) _ | exact Ext.trans (by assumption) (by assumption) | refine Ext.trans ?_ (by assumption)))) (by first | assumption | exact AB.ext (by assumption) (by repeat (first | assumption | exact Ext.refl _ | refine Ext.alloc ?_ _ | refine Ext.drew ?_ | refine Ext.setB ?_ (by first | omega | (simp only [size_alloc, size_setB, size_drew]; omega)) _ | exact Ext.trans (by assumption) (by assumption) | refine Ext.trans ?_ (by assumption))) | exact PB.ab (by assumption) | exact PB.ab (PB.ext (by assumption) (by repeat (first | assumption | exact Ext.refl _ | refine Ext.alloc ?_ _ | refine Ext.drew ?_ | refine Ext.setB ?_ (by first | omega | (simp only [size_alloc, size_setB, size_drew]; omega)) _ | exact Ext.trans (by assumption) (by assumption) | refine Ext.trans ?_ (by assumption))))) (by omega)) ?_)
                    rintro _ w29_104 ⟨hE29_104, s29_104, rfl, hN29_104⟩
                    have hz29_104 := hE29_104.1
                    try simp only [size_alloc, size_setB, size_drew] at hz29_104
                    have hs29_104 := hN29_104.z_bv
                    refine WO_p (PS_assign_slice rfl) ?_
                    refine WO_nil ?_
                    refine thn_normal ?_
                    refine W_ret ?_
                    refine inBlk_ret ?_
                    refine thn_ret ?_
                    refine bodyQ_ret1 Hvac.results126 rfl (.slice _ _ _) rfl ?_
                    have e8 : yvst y f o l = y := (by unfold yvst; rw [if_neg (by omega), if_neg (by omega)]); rw [e8]; subst ho5; exact ⟨(_, _, _), x, rfl, (SStep.refl hX.ss).extR (by repeat (first | assumption | exact Ext.refl _ | refine Ext.alloc ?_ _ | refine Ext.drew ?_ | refine Ext.setB ?_ (by first | omega | (simp only [size_alloc, size_setB, size_drew]; omega)) _ | refine Ext.trans ?_ (by assumption))), rfl, rfl, NN.castY (by first | exact NN.nil _ | assumption | exact NN.ext (by assumption) (by repeat (first | assumption | exact Ext.refl _ | refine Ext.alloc ?_ _ | refine Ext.drew ?_ | refine Ext.setB ?_ (by first | omega | (simp only [size_alloc, size_setB, size_drew]; omega)) _ | exact Ext.trans (by assumption) (by assumption) | refine Ext.trans ?_ (by assumption)))) (by simp [yval] <;> omega)⟩
                  · have hb104p := hb104.h; try simp only [al_ete, al_dfn, Bool.not_eq_true', Bool.not_eq_false', al_ne, Bool.not_not, al_nn] at hb104p
                    refine W_seq ?_
                    refine W_region rfl ?_
                    refine WO_p (PS_eql rfl rfl) ?_
                    refine WO_p (PS_assign_bool rfl) ?_
                    refine WO_nil ?_
                    refine thn_normal ?_
                    refine W_if rfl (fun hb107 => ?_) (fun hb107 => ?_)
                    · have hb107p := hb107.h; try simp only [al_ete, al_dfn, Bool.not_eq_true', Bool.not_eq_false', al_ne, Bool.not_not, al_nn] at hb107p
                      have ho5 : o = 50 := by omega
                      refine W_seq ?_
                      refine W_region rfl ?_
                      refine WO_p (PS_move_ptr rfl) ?_
                      refine WO_p (PS_nilCheck rfl) ?_
                      refine WO_p (PS_fieldAddr 19 Hvac.runUnderlying99 rfl Hvac.sizeOf25 rfl rfl) ?_
                      refine WO_p (PS_slA Hvac.runUnderlying25 Hvac.sizeOf5 rfl (by omega)) ?_
                      refine WO_call Hvac.call29 (by rfl) (Ret.mono (nBE_spec (OmB.ext hO (by repeat (first | assumption | exact Ext.refl _ | refine Ext.alloc ?_ _ | refine Ext.drew ?_ | refine Ext.setB ?_ (by first | omega | (simp only [size_alloc, size_setB, size_drew]; omega)) _ | exact Ext.trans (by assumption) (by assumption) | refine Ext.trans ?_ (by assumption)))) (by first | assumption | exact AB.ext (by assumption) (by repeat (first | assumption | exact Ext.refl _ | refine Ext.alloc ?_ _ | refine Ext.drew ?_ | refine Ext.setB ?_ (by first | omega | (simp only [size_alloc, size_setB, size_drew]; omega)) _ | exact Ext.trans (by assumption) (by assumption) | refine Ext.trans ?_ (by assumption))) | exact PB.ab (by assumption) | exact PB.ab (PB.ext (by assumption) (by repeat (first | assumption | exact Ext.refl _ | refine Ext.alloc ?_ _ | refine Ext.drew ?_ | refine Ext.setB ?_ (by first | omega | (simp only [size_alloc, size_setB, size_drew]; omega)) _ | exact Ext.trans (by assumption) (by assumption) | refine Ext.trans ?_ (by assumption))))) (by omega)) ?_)
                      rintro _ w29_107 ⟨hE29_107, s29_107, rfl, hN29_107⟩
                      have hz29_107 := hE29_107.1
                      try simp only [size_alloc, size_setB, size_drew] at hz29_107
                      have hs29_107 := hN29_107.z_bv
                      refine WO_p (PS_assign_slice rfl) ?_
                      refine WO_nil ?_
                      refine thn_normal ?_
                      refine W_ret ?_
                      refine inBlk_ret ?_
                      refine thn_ret ?_
                      refine bodyQ_ret1 Hvac.results126 rfl (.slice _ _ _) rfl ?_
                      have e8 : yvst y f o l = y := (by unfold yvst; rw [if_neg (by omega), if_neg (by omega)]); rw [e8]; subst ho5; exact ⟨(_, _, _), x, rfl, (SStep.refl hX.ss).extR (by repeat (first | assumption | exact Ext.refl _ | refine Ext.alloc ?_ _ | refine Ext.drew ?_ | refine Ext.setB ?_ (by first | omega | (simp only [size_alloc, size_setB, size_drew]; omega)) _ | refine Ext.trans ?_ (by assumption))), rfl, rfl, NN.castY (by first | exact NN.nil _ | assumption | exact NN.ext (by assumption) (by repeat (first | assumption | exact Ext.refl _ | refine Ext.alloc ?_ _ | refine Ext.drew ?_ | refine Ext.setB ?_ (by first | omega | (simp only [size_alloc, size_setB, size_drew]; omega)) _ | exact Ext.trans (by assumption) (by assumption) | refine Ext.trans ?_ (by assumption)))) (by simp [yval] <;> omega)⟩
                    · have hb107p := hb107.h; try simp only [al_ete, al_dfn, Bool.not_eq_true', Bool.not_eq_false', al_ne, Bool.not_not, al_nn] at hb107p
                      refine W_seq ?_
                      refine W_region rfl ?_
                      refine WO_p (PS_eql rfl rfl) ?_
                      refine WO_p (PS_assign_bool rfl) ?_
                      refine WO_nil ?_
                      refine thn_normal ?_
                      refine W_if rfl (fun hb110 => ?_) (fun hb110 => ?_)
                      · have hb110p := hb110.h; try simp only [al_ete, al_dfn, Bool.not_eq_true', Bool.not_eq_false', al_ne, Bool.not_not, al_nn] at hb110p
                        have ho5 : o = 51 := by omega
                        refine W_seq ?_
                        refine W_region rfl ?_
                        refine WO_p (PS_move_ptr rfl) ?_
                        refine WO_p (PS_nilCheck rfl) ?_
                        refine WO_p (PS_fieldAddr 32 Hvac.runUnderlying121 rfl Hvac.sizeOf25 rfl rfl) ?_
                        refine WO_p (PS_slA Hvac.runUnderlying25 Hvac.sizeOf5 rfl (by omega)) ?_
                        refine WO_call Hvac.call29 (by rfl) (Ret.mono (nBE_spec (OmB.ext hO (by repeat (first | assumption | exact Ext.refl _ | refine Ext.alloc ?_ _ | refine Ext.drew ?_ | refine Ext.setB ?_ (by first | omega | (simp only [size_alloc, size_setB, size_drew]; omega)) _ | exact Ext.trans (by assumption) (by assumption) | refine Ext.trans ?_ (by assumption)))) (by first | assumption | exact AB.ext (by assumption) (by repeat (first | assumption | exact Ext.refl _ | refine Ext.alloc ?_ _ | refine Ext.drew ?_ | refine Ext.setB ?_ (by first | omega | (simp only [size_alloc, size_setB, size_drew]; omega)) _ | exact Ext.trans (by assumption) (by assumption) | refine Ext.trans ?_ (by assumption))) | exact PB.ab (by assumption) | exact PB.ab (PB.ext (by assumption) (by repeat (first | assumption | exact Ext.refl _ | refine Ext.alloc ?_ _ | refine Ext.drew ?_ | refine Ext.setB ?_ (by first | omega | (simp only [size_alloc, size_setB, size_drew]; omega)) _ | exact Ext.trans (by assumption) (by assumption) | refine Ext.trans ?_ (by assumption))))) (by omega)) ?_)
                        rintro _ w29_110 ⟨hE29_110, s29_110, rfl, hN29_110⟩
                        have hz29_110 := hE29_110.1
                        try simp only [size_alloc, size_setB, size_drew] at hz29_110
                        have hs29_110 := hN29_110.z_bv
                        refine WO_p (PS_assign_slice rfl) ?_
                        refine WO_nil ?_
                        refine thn_normal ?_
                        refine W_ret ?_
                        refine inBlk_ret ?_
                        refine thn_ret ?_
                        refine bodyQ_ret1 Hvac.results126 rfl (.slice _ _ _) rfl ?_
                        have e8 : yvst y f o l = y := (by unfold yvst; rw [if_neg (by omega), if_neg (by omega)]); rw [e8]; subst ho5; exact ⟨(_, _, _), x, rfl, (SStep.refl hX.ss).extR (by repeat (first | assumption | exact Ext.refl _ | refine Ext.alloc ?_ _ | refine Ext.drew ?_ | refine Ext.setB ?_ (by first | omega | (simp only [size_alloc, size_setB, size_drew]; omega)) _ | refine Ext.trans ?_ (by assumption))), rfl, rfl, NN.castY (by first | exact NN.nil _ | assumption | exact NN.ext (by assumption) (by repeat (first | assumption | exact Ext.refl _ | refine Ext.alloc ?_ _ | refine Ext.drew ?_ | refine Ext.setB ?_ (by first | omega | (simp only [size_alloc, size_setB, size_drew]; omega)) _ | exact Ext.trans (by assumption) (by assumption) | refine Ext.trans ?_ (by assumption)))) (by simp [yval] <;> omega)⟩
                      · have hb110p := hb110.h; try simp only [al_ete, al_dfn, Bool.not_eq_true', Bool.not_eq_false', al_ne, Bool.not_not, al_nn] at hb110p
                        refine W_seq ?_
                        refine W_region rfl ?_
                        refine WO_p (PS_eql rfl rfl) ?_
                        refine WO_p (PS_assign_bool rfl) ?_
                        refine WO_nil ?_
                        refine thn_normal ?_
                        refine W_if rfl (fun hb113 => ?_) (fun hb113 => ?_)
                        · have hb113p := hb113.h; try simp only [al_ete, al_dfn, Bool.not_eq_true', Bool.not_eq_false', al_ne, Bool.not_not, al_nn] at hb113p
                          have ho5 : o = 52 := by omega
                          refine W_seq ?_
                          refine W_region rfl ?_
                          refine WO_p (PS_move_ptr rfl) ?_
                          refine WO_p (PS_nilCheck rfl) ?_
                          refine WO_p (PS_fieldAddr 5 Hvac.runUnderlying121 rfl Hvac.sizeOf92 rfl rfl) ?_
                          refine WO_load (.slice _ _ _) Hvac.isAgg92 rfl (Hb.h (by repeat (first | assumption | exact Hb.newY _ _ | refine Hb.alloc ?_ | refine Hb.drew ?_ | refine Hb.ext (by assumption) ?_ | exact Hb.setSameL (by first | omega | (simp only [size_alloc, size_setB, size_drew]; omega)) | exact Hb.setSame (by assumption) | refine Hb.set (by first | omega | (simp only [size_alloc, size_setB, size_drew]; omega)) ?_ ))) (Ce.h (by first | assumption | exact ⟨rfl⟩)) ?_
                          refine WO_call Hvac.call79 (by rfl) (Ret.mono (nNorm_spec (OmB.ext hO (by repeat (first | assumption | exact Ext.refl _ | refine Ext.alloc ?_ _ | refine Ext.drew ?_ | refine Ext.setB ?_ (by first | omega | (simp only [size_alloc, size_setB, size_drew]; omega)) _ | exact Ext.trans (by assumption) (by assumption) | refine Ext.trans ?_ (by assumption)))) (by first | exact NN.nil _ | assumption | exact NN.ext (by assumption) (by repeat (first | assumption | exact Ext.refl _ | refine Ext.alloc ?_ _ | refine Ext.drew ?_ | refine Ext.setB ?_ (by first | omega | (simp only [size_alloc, size_setB, size_drew]; omega)) _ | exact Ext.trans (by assumption) (by assumption) | refine Ext.trans ?_ (by assumption)))) (by first | assumption | omega | (rw [sz_zero]; omega))) ?_)
                          rintro _ w79_113 ⟨hE79_113, s79_113, rfl, hN79_113⟩
                          have hz79_113 := hE79_113.1
                          try simp only [size_alloc, size_setB, size_drew] at hz79_113
                          refine WO_p (PS_assign_slice rfl) ?_
                          refine WO_nil ?_
                          refine thn_normal ?_
                          refine W_ret ?_
                          refine inBlk_ret ?_
                          refine thn_ret ?_
                          refine bodyQ_ret1 Hvac.results126 rfl (.slice _ _ _) rfl ?_
                          have e8 : yvst y f o l = y := (by unfold yvst; rw [if_neg (by omega), if_neg (by omega)]); rw [e8]; subst ho5; exact ⟨(_, _, _), x, rfl, (SStep.refl hX.ss).extR (by repeat (first | assumption | exact Ext.refl _ | refine Ext.alloc ?_ _ | refine Ext.drew ?_ | refine Ext.setB ?_ (by first | omega | (simp only [size_alloc, size_setB, size_drew]; omega)) _ | refine Ext.trans ?_ (by assumption))), rfl, rfl, NN.castY (by first | exact NN.nil _ | assumption | exact NN.ext (by assumption) (by repeat (first | assumption | exact Ext.refl _ | refine Ext.alloc ?_ _ | refine Ext.drew ?_ | refine Ext.setB ?_ (by first | omega | (simp only [size_alloc, size_setB, size_drew]; omega)) _ | exact Ext.trans (by assumption) (by assumption) | refine Ext.trans ?_ (by assumption)))) (by simp [yval] <;> omega)⟩
                        · have hb113p := hb113.h; try simp only [al_ete, al_dfn, Bool.not_eq_true', Bool.not_eq_false', al_ne, Bool.not_not, al_nn] at hb113p
                          refine W_seq ?_
                          refine W_region rfl ?_
                          refine WO_p (PS_eql rfl rfl) ?_
                          refine WO_p (PS_assign_bool rfl) ?_
                          refine WO_nil ?_
                          refine thn_normal ?_
                          refine W_if rfl (fun hb116 => ?_) (fun hb116 => ?_)
                          · have hb116p := hb116.h; try simp only [al_ete, al_dfn, Bool.not_eq_true', Bool.not_eq_false', al_ne, Bool.not_not, al_nn] at hb116p
                            have ho5 : o = 53 := by omega
                            refine W_seq ?_
                            refine W_drawE [false, false, false, false, false, true, false, false, false] hmix (by kernel_rfl) rfl ?_
                            refine WH_p (PS_move_ptr rfl) rfl ?_
                            refine WH_p (PS_nilCheck rfl) rfl ?_
                            refine WH_p (PS_fieldAddr 11 Hvac.runUnderlying121 rfl Hvac.sizeOf32 rfl rfl) rfl ?_
                            refine WH_load (.slice _ _ _) Hvac.isAgg32 rfl (Hb.h (by repeat (first | assumption | exact Hb.newY _ _ | refine Hb.alloc ?_ | refine Hb.drew ?_ | refine Hb.ext (by assumption) ?_ | exact Hb.setSameL (by first | omega | (simp only [size_alloc, size_setB, size_drew]; omega)) | exact Hb.setSame (by assumption) | refine Hb.set (by first | omega | (simp only [size_alloc, size_setB, size_drew]; omega)) ?_ ))) (Ce.h (by first | assumption | exact ⟨rfl⟩)) ?_
                            refine WH_p (PS_move_slice rfl) rfl ?_
                            refine WH_call Hvac.call19 (by rfl) (Ret.mono (nNum_spec (OmB.ext hO (by repeat (first | assumption | exact Ext.refl _ | refine Ext.alloc ?_ _ | refine Ext.drew ?_ | refine Ext.setB ?_ (by first | omega | (simp only [size_alloc, size_setB, size_drew]; omega)) _ | exact Ext.trans (by assumption) (by assumption) | refine Ext.trans ?_ (by assumption)))) ⟨by omega, by omega⟩) ?_)
                            rintro _ w19_116 ⟨hE19_116, s19_116, rfl, hN19_116, hs19_116⟩
                            refine ⟨fun _ => (by repeat (first | assumption | exact Ext.refl _ | refine Ext.alloc ?_ _ | refine Ext.drew ?_ | refine Ext.setB ?_ (by first | omega | (simp only [size_alloc, size_setB, size_drew]; omega)) _ | exact Ext.trans (by assumption) (by assumption) | refine Ext.trans ?_ (by assumption))), ?_⟩
                            have hz19_116 := hE19_116.1
                            try simp only [size_alloc, size_setB, size_drew] at hz19_116
                            try simp only [Int.toNat_natCast, toNat_lit] at hN19_116 hs19_116
                            try simp only [show Int.toNat 1 = 1 from rfl, show Int.toNat 32 = 32 from rfl] at hN19_116 hs19_116
                            refine WH_call Hvac.call120 (by rfl) (Ret.mono (yCut_spec _ (OmB.ext hO (by repeat (first | assumption | exact Ext.refl _ | refine Ext.alloc ?_ _ | refine Ext.drew ?_ | refine Ext.setB ?_ (by first | omega | (simp only [size_alloc, size_setB, size_drew]; omega)) _ | exact Ext.trans (by assumption) (by assumption) | refine Ext.trans ?_ (by assumption)))) _ _ _ _ (by first | assumption | exact AB.ext (by assumption) (by repeat (first | assumption | exact Ext.refl _ | refine Ext.alloc ?_ _ | refine Ext.drew ?_ | refine Ext.setB ?_ (by first | omega | (simp only [size_alloc, size_setB, size_drew]; omega)) _ | exact Ext.trans (by assumption) (by assumption) | refine Ext.trans ?_ (by assumption))) | exact PB.ab (by assumption) | exact PB.ab (PB.ext (by assumption) (by repeat (first | assumption | exact Ext.refl _ | refine Ext.alloc ?_ _ | refine Ext.drew ?_ | refine Ext.setB ?_ (by first | omega | (simp only [size_alloc, size_setB, size_drew]; omega)) _ | exact Ext.trans (by assumption) (by assumption) | refine Ext.trans ?_ (by assumption))))) (by omega) _ _ _ _ (by first | exact NN.nil _ | assumption | exact NN.ext (by assumption) (by repeat (first | assumption | exact Ext.refl _ | refine Ext.alloc ?_ _ | refine Ext.drew ?_ | refine Ext.setB ?_ (by first | omega | (simp only [size_alloc, size_setB, size_drew]; omega)) _ | exact Ext.trans (by assumption) (by assumption) | refine Ext.trans ?_ (by assumption)))) (by first | assumption | omega | (rw [sz_zero]; omega)) _ _ _ _ (by first | exact NN.nil _ | assumption | exact NN.ext (by assumption) (by repeat (first | assumption | exact Ext.refl _ | refine Ext.alloc ?_ _ | refine Ext.drew ?_ | refine Ext.setB ?_ (by first | omega | (simp only [size_alloc, size_setB, size_drew]; omega)) _ | exact Ext.trans (by assumption) (by assumption) | refine Ext.trans ?_ (by assumption)))) (by first | assumption | omega | (rw [sz_zero]; omega)) (by omega)) ?_)
                            rintro _ w120_117 ⟨hE120_117, s120_117, rfl, hN120_117⟩
                            refine ⟨(fun h => by cases h), ?_⟩
                            have hz120_117 := hE120_117.1
                            try simp only [size_alloc, size_setB, size_drew] at hz120_117
                            have hl120_117 := PB.len hN120_117
                            rw [ycut_len] at hl120_117
                            refine WH_call Hvac.call29 (by rfl) (Ret.mono (nBE_spec (OmB.ext hO (by repeat (first | assumption | exact Ext.refl _ | refine Ext.alloc ?_ _ | refine Ext.drew ?_ | refine Ext.setB ?_ (by first | omega | (simp only [size_alloc, size_setB, size_drew]; omega)) _ | exact Ext.trans (by assumption) (by assumption) | refine Ext.trans ?_ (by assumption)))) (by first | assumption | exact AB.ext (by assumption) (by repeat (first | assumption | exact Ext.refl _ | refine Ext.alloc ?_ _ | refine Ext.drew ?_ | refine Ext.setB ?_ (by first | omega | (simp only [size_alloc, size_setB, size_drew]; omega)) _ | exact Ext.trans (by assumption) (by assumption) | refine Ext.trans ?_ (by assumption))) | exact PB.ab (by assumption) | exact PB.ab (PB.ext (by assumption) (by repeat (first | assumption | exact Ext.refl _ | refine Ext.alloc ?_ _ | refine Ext.drew ?_ | refine Ext.setB ?_ (by first | omega | (simp only [size_alloc, size_setB, size_drew]; omega)) _ | exact Ext.trans (by assumption) (by assumption) | refine Ext.trans ?_ (by assumption))))) (by omega)) ?_)
                            rintro _ w29_118 ⟨hE29_118, s29_118, rfl, hN29_118⟩
                            refine ⟨(fun h => by cases h), ?_⟩
                            have hz29_118 := hE29_118.1
                            try simp only [size_alloc, size_setB, size_drew] at hz29_118
                            have hs29_118 := hN29_118.z_bv
                            refine WH_p (PS_assign_slice rfl) rfl ?_
                            refine WH_nil ?_
                            refine thn_normal ?_
                            refine W_ret ?_
                            refine inBlk_ret ?_
                            refine thn_ret ?_
                            refine bodyQ_ret1 Hvac.results126 rfl (.slice _ _ _) rfl ?_
                            have e8 : yvst y f o l = y := (by unfold yvst; rw [if_neg (by omega), if_neg (by omega)]); rw [e8]; subst ho5; exact ⟨(_, _, _), x, rfl, (SStep.refl hX.ss).extR (by repeat (first | assumption | exact Ext.refl _ | refine Ext.alloc ?_ _ | refine Ext.drew ?_ | refine Ext.setB ?_ (by first | omega | (simp only [size_alloc, size_setB, size_drew]; omega)) _ | refine Ext.trans ?_ (by assumption))), rfl, rfl, NN.castY (by first | exact NN.nil _ | assumption | exact NN.ext (by assumption) (by repeat (first | assumption | exact Ext.refl _ | refine Ext.alloc ?_ _ | refine Ext.drew ?_ | refine Ext.setB ?_ (by first | omega | (simp only [size_alloc, size_setB, size_drew]; omega)) _ | exact Ext.trans (by assumption) (by assumption) | refine Ext.trans ?_ (by assumption)))) (by simp [yval] <;> omega)⟩
                          · have hb116p := hb116.h; try simp only [al_ete, al_dfn, Bool.not_eq_true', Bool.not_eq_false', al_ne, Bool.not_not, al_nn] at hb116p
                            refine W_seq ?_
                            refine W_region rfl ?_
                            refine WO_p (PS_eql rfl rfl) ?_
                            refine WO_p (PS_assign_bool rfl) ?_
                            refine WO_nil ?_
                            refine thn_normal ?_
                            refine W_if rfl (fun hb121 => ?_) (fun hb121 => ?_)
                            · have hb121p := hb121.h; try simp only [al_ete, al_dfn, Bool.not_eq_true', Bool.not_eq_false', al_ne, Bool.not_not, al_nn] at hb121p
                              have ho5 : o = 54 := by omega
                              refine W_seq ?_
                              refine W_region rfl ?_
                              refine WO_p (PS_move_ptr rfl) ?_
                              refine WO_p (PS_nilCheck rfl) ?_
                              refine WO_p (PS_fieldAddr 11 Hvac.runUnderlying121 rfl Hvac.sizeOf32 rfl rfl) ?_
                              refine WO_load (.slice _ _ _) Hvac.isAgg32 rfl (Hb.h (by repeat (first | assumption | exact Hb.newY _ _ | refine Hb.alloc ?_ | refine Hb.drew ?_ | refine Hb.ext (by assumption) ?_ | exact Hb.setSameL (by first | omega | (simp only [size_alloc, size_setB, size_drew]; omega)) | exact Hb.setSame (by assumption) | refine Hb.set (by first | omega | (simp only [size_alloc, size_setB, size_drew]; omega)) ?_ ))) (Ce.h (by first | assumption | exact ⟨rfl⟩)) ?_
                              refine WO_p (PS_lenS Hvac.runUnderlying32 rfl) ?_
                              refine WO_p (PS_conv_u64n Hvac.runUnderlying3 Hvac.runUnderlying26 rfl (by omega) (by omega)) ?_
                              refine WO_call Hvac.call19 (by rfl) (Ret.mono (nNum_spec (OmB.ext hO (by repeat (first | assumption | exact Ext.refl _ | refine Ext.alloc ?_ _ | refine Ext.drew ?_ | refine Ext.setB ?_ (by first | omega | (simp only [size_alloc, size_setB, size_drew]; omega)) _ | exact Ext.trans (by assumption) (by assumption) | refine Ext.trans ?_ (by assumption)))) ⟨by omega, by omega⟩) ?_)
                              rintro _ w19_121 ⟨hE19_121, s19_121, rfl, hN19_121, hs19_121⟩
                              have hz19_121 := hE19_121.1
                              try simp only [size_alloc, size_setB, size_drew] at hz19_121
                              try simp only [Int.toNat_natCast, toNat_lit] at hN19_121 hs19_121
                              try simp only [show Int.toNat 1 = 1 from rfl, show Int.toNat 32 = 32 from rfl] at hN19_121 hs19_121
                              refine WO_p (PS_assign_slice rfl) ?_
                              refine WO_nil ?_
                              refine thn_normal ?_
                              refine W_ret ?_
                              refine inBlk_ret ?_
                              refine thn_ret ?_
                              refine bodyQ_ret1 Hvac.results126 rfl (.slice _ _ _) rfl ?_
                              have e8 : yvst y f o l = y := (by unfold yvst; rw [if_neg (by omega), if_neg (by omega)]); rw [e8]; subst ho5; exact ⟨(_, _, _), x, rfl, (SStep.refl hX.ss).extR (by repeat (first | assumption | exact Ext.refl _ | refine Ext.alloc ?_ _ | refine Ext.drew ?_ | refine Ext.setB ?_ (by first | omega | (simp only [size_alloc, size_setB, size_drew]; omega)) _ | refine Ext.trans ?_ (by assumption))), rfl, rfl, NN.castY (by first | exact NN.nil _ | assumption | exact NN.ext (by assumption) (by repeat (first | assumption | exact Ext.refl _ | refine Ext.alloc ?_ _ | refine Ext.drew ?_ | refine Ext.setB ?_ (by first | omega | (simp only [size_alloc, size_setB, size_drew]; omega)) _ | exact Ext.trans (by assumption) (by assumption) | refine Ext.trans ?_ (by assumption)))) (by simp [yval] <;> omega)⟩
                            · have hb121p := hb121.h; try simp only [al_ete, al_dfn, Bool.not_eq_true', Bool.not_eq_false', al_ne, Bool.not_not, al_nn] at hb121p
                              refine W_seq ?_
                              refine W_region rfl ?_
                              refine WO_p (PS_eql rfl rfl) ?_
                              refine WO_p (PS_assign_bool rfl) ?_
                              refine WO_nil ?_
                              refine thn_normal ?_
                              refine W_if rfl (fun hb124 => ?_) (fun hb124 => ?_)
                              · have hb124p := hb124.h; try simp only [al_ete, al_dfn, Bool.not_eq_true', Bool.not_eq_false', al_ne, Bool.not_not, al_nn] at hb124p
                                have ho5 : o = 56 := by omega
                                refine W_seq ?_
                                refine W_region rfl ?_
                                refine WO_p (PS_move_ptr rfl) ?_
                                refine WO_p (PS_nilCheck rfl) ?_
                                refine WO_p (PS_fieldAddr 10 Hvac.runUnderlying121 rfl Hvac.sizeOf32 rfl rfl) ?_
                                refine WO_load (.slice _ _ _) Hvac.isAgg32 rfl (Hb.h (by repeat (first | assumption | exact Hb.newY _ _ | refine Hb.alloc ?_ | refine Hb.drew ?_ | refine Hb.ext (by assumption) ?_ | exact Hb.setSameL (by first | omega | (simp only [size_alloc, size_setB, size_drew]; omega)) | exact Hb.setSame (by assumption) | refine Hb.set (by first | omega | (simp only [size_alloc, size_setB, size_drew]; omega)) ?_ ))) (Ce.h (by first | assumption | exact ⟨rfl⟩)) ?_
                                refine WO_p (PS_lenS Hvac.runUnderlying32 rfl) ?_
                                refine WO_p (PS_conv_u64n Hvac.runUnderlying3 Hvac.runUnderlying26 rfl (by omega) (by omega)) ?_
                                refine WO_call Hvac.call19 (by rfl) (Ret.mono (nNum_spec (OmB.ext hO (by repeat (first | assumption | exact Ext.refl _ | refine Ext.alloc ?_ _ | refine Ext.drew ?_ | refine Ext.setB ?_ (by first | omega | (simp only [size_alloc, size_setB, size_drew]; omega)) _ | exact Ext.trans (by assumption) (by assumption) | refine Ext.trans ?_ (by assumption)))) ⟨by omega, by omega⟩) ?_)
                                rintro _ w19_124 ⟨hE19_124, s19_124, rfl, hN19_124, hs19_124⟩
                                have hz19_124 := hE19_124.1
                                try simp only [size_alloc, size_setB, size_drew] at hz19_124
                                try simp only [Int.toNat_natCast, toNat_lit] at hN19_124 hs19_124
                                try simp only [show Int.toNat 1 = 1 from rfl, show Int.toNat 32 = 32 from rfl] at hN19_124 hs19_124
                                refine WO_p (PS_assign_slice rfl) ?_
                                refine WO_nil ?_
                                refine thn_normal ?_
                                refine W_ret ?_
                                refine inBlk_ret ?_
                                refine thn_ret ?_
                                refine bodyQ_ret1 Hvac.results126 rfl (.slice _ _ _) rfl ?_
                                have e8 : yvst y f o l = y := (by unfold yvst; rw [if_neg (by omega), if_neg (by omega)]); rw [e8]; subst ho5; exact ⟨(_, _, _), x, rfl, (SStep.refl hX.ss).extR (by repeat (first | assumption | exact Ext.refl _ | refine Ext.alloc ?_ _ | refine Ext.drew ?_ | refine Ext.setB ?_ (by first | omega | (simp only [size_alloc, size_setB, size_drew]; omega)) _ | refine Ext.trans ?_ (by assumption))), rfl, rfl, NN.castY (by first | exact NN.nil _ | assumption | exact NN.ext (by assumption) (by repeat (first | assumption | exact Ext.refl _ | refine Ext.alloc ?_ _ | refine Ext.drew ?_ | refine Ext.setB ?_ (by first | omega | (simp only [size_alloc, size_setB, size_drew]; omega)) _ | exact Ext.trans (by assumption) (by assumption) | refine Ext.trans ?_ (by assumption)))) (by simp [yval] <;> omega)⟩
                              · have hb124p := hb124.h; try simp only [al_ete, al_dfn, Bool.not_eq_true', Bool.not_eq_false', al_ne, Bool.not_not, al_nn] at hb124p
                                refine W_seq ?_
                                refine W_region rfl ?_
                                refine WO_p (PS_eql rfl rfl) ?_
                                refine WO_p (PS_assign_bool rfl) ?_
                                refine WO_nil ?_
                                refine thn_normal ?_
                                refine W_if rfl (fun hb127 => ?_) (fun hb127 => ?_)
                                · have hb127p := hb127.h; try simp only [al_ete, al_dfn, Bool.not_eq_true', Bool.not_eq_false', al_ne, Bool.not_not, al_nn] at hb127p
                                  have ho5 : o = 58 := by omega
                                  refine W_seq ?_
                                  refine W_region rfl ?_
                                  refine WO_p (PS_move_ptr rfl) ?_
                                  refine WO_p (PS_nilCheck rfl) ?_
                                  refine WO_p (PS_fieldAddr 17 Hvac.runUnderlying99 rfl Hvac.sizeOf92 rfl rfl) ?_
                                  refine WO_load (.slice _ _ _) Hvac.isAgg92 rfl (Hb.h (by repeat (first | assumption | exact Hb.newY _ _ | refine Hb.alloc ?_ | refine Hb.drew ?_ | refine Hb.ext (by assumption) ?_ | exact Hb.setSameL (by first | omega | (simp only [size_alloc, size_setB, size_drew]; omega)) | exact Hb.setSame (by assumption) | refine Hb.set (by first | omega | (simp only [size_alloc, size_setB, size_drew]; omega)) ?_ ))) (Ce.h (by first | assumption | exact ⟨rfl⟩)) ?_
                                  refine WO_call Hvac.call79 (by rfl) (Ret.mono (nNorm_spec (OmB.ext hO (by repeat (first | assumption | exact Ext.refl _ | refine Ext.alloc ?_ _ | refine Ext.drew ?_ | refine Ext.setB ?_ (by first | omega | (simp only [size_alloc, size_setB, size_drew]; omega)) _ | exact Ext.trans (by assumption) (by assumption) | refine Ext.trans ?_ (by assumption)))) (by first | exact NN.nil _ | assumption | exact NN.ext (by assumption) (by repeat (first | assumption | exact Ext.refl _ | refine Ext.alloc ?_ _ | refine Ext.drew ?_ | refine Ext.setB ?_ (by first | omega | (simp only [size_alloc, size_setB, size_drew]; omega)) _ | exact Ext.trans (by assumption) (by assumption) | refine Ext.trans ?_ (by assumption)))) (by first | assumption | omega | (rw [sz_zero]; omega))) ?_)
                                  rintro _ w79_127 ⟨hE79_127, s79_127, rfl, hN79_127⟩
                                  have hz79_127 := hE79_127.1
                                  try simp only [size_alloc, size_setB, size_drew] at hz79_127
                                  refine WO_p (PS_assign_slice rfl) ?_
                                  refine WO_nil ?_
                                  refine thn_normal ?_
                                  refine W_ret ?_
                                  refine inBlk_ret ?_
                                  refine thn_ret ?_
                                  refine bodyQ_ret1 Hvac.results126 rfl (.slice _ _ _) rfl ?_
                                  have e8 : yvst y f o l = y := (by unfold yvst; rw [if_neg (by omega), if_neg (by omega)]); rw [e8]; subst ho5; exact ⟨(_, _, _), x, rfl, (SStep.refl hX.ss).extR (by repeat (first | assumption | exact Ext.refl _ | refine Ext.alloc ?_ _ | refine Ext.drew ?_ | refine Ext.setB ?_ (by first | omega | (simp only [size_alloc, size_setB, size_drew]; omega)) _ | refine Ext.trans ?_ (by assumption))), rfl, rfl, NN.castY (by first | exact NN.nil _ | assumption | exact NN.ext (by assumption) (by repeat (first | assumption | exact Ext.refl _ | refine Ext.alloc ?_ _ | refine Ext.drew ?_ | refine Ext.setB ?_ (by first | omega | (simp only [size_alloc, size_setB, size_drew]; omega)) _ | exact Ext.trans (by assumption) (by assumption) | refine Ext.trans ?_ (by assumption)))) (by simp [yval] <;> omega)⟩
                                · have hb127p := hb127.h; try simp only [al_ete, al_dfn, Bool.not_eq_true', Bool.not_eq_false', al_ne, Bool.not_not, al_nn] at hb127p
                                  refine W_seq ?_
                                  refine W_region rfl ?_
                                  refine WO_p (PS_eql rfl rfl) ?_
                                  refine WO_p (PS_assign_bool rfl) ?_
                                  refine WO_nil ?_
                                  refine thn_normal ?_
                                  refine W_if rfl (fun hb130 => ?_) (fun hb130 => ?_)
                                  · have hb130p := hb130.h; try simp only [al_ete, al_dfn, Bool.not_eq_true', Bool.not_eq_false', al_ne, Bool.not_not, al_nn] at hb130p
                                    have ho5 : o = 61 := by omega
                                    refine W_seq ?_
                                    refine W_region rfl ?_
                                    refine WO_p (PS_move_ptr rfl) ?_
                                    refine WO_p (PS_nilCheck rfl) ?_
                                    refine WO_p (PS_fieldAddr 10 Hvac.runUnderlying99 rfl Hvac.sizeOf32 rfl rfl) ?_
                                    refine WO_load (.slice _ _ _) Hvac.isAgg32 rfl (Hb.h (by repeat (first | assumption | exact Hb.newY _ _ | refine Hb.alloc ?_ | refine Hb.drew ?_ | refine Hb.ext (by assumption) ?_ | exact Hb.setSameL (by first | omega | (simp only [size_alloc, size_setB, size_drew]; omega)) | exact Hb.setSame (by assumption) | refine Hb.set (by first | omega | (simp only [size_alloc, size_setB, size_drew]; omega)) ?_ ))) (Ce.h (by first | assumption | exact ⟨rfl⟩)) ?_
                                    refine WO_p (PS_lenS Hvac.runUnderlying32 rfl) ?_
                                    refine WO_p (PS_conv_u64n Hvac.runUnderlying3 Hvac.runUnderlying26 rfl (by omega) (by omega)) ?_
                                    refine WO_call Hvac.call19 (by rfl) (Ret.mono (nNum_spec (OmB.ext hO (by repeat (first | assumption | exact Ext.refl _ | refine Ext.alloc ?_ _ | refine Ext.drew ?_ | refine Ext.setB ?_ (by first | omega | (simp only [size_alloc, size_setB, size_drew]; omega)) _ | exact Ext.trans (by assumption) (by assumption) | refine Ext.trans ?_ (by assumption)))) ⟨by omega, by omega⟩) ?_)
                                    rintro _ w19_130 ⟨hE19_130, s19_130, rfl, hN19_130, hs19_130⟩
                                    have hz19_130 := hE19_130.1
                                    try simp only [size_alloc, size_setB, size_drew] at hz19_130
                                    try simp only [Int.toNat_natCast, toNat_lit] at hN19_130 hs19_130
                                    try simp only [show Int.toNat 1 = 1 from rfl, show Int.toNat 32 = 32 from rfl] at hN19_130 hs19_130
                                    refine WO_p (PS_assign_slice rfl) ?_
                                    refine WO_nil ?_
                                    refine thn_normal ?_
                                    refine W_ret ?_
                                    refine inBlk_ret ?_
                                    refine thn_ret ?_
                                    refine bodyQ_ret1 Hvac.results126 rfl (.slice _ _ _) rfl ?_
                                    have e8 : yvst y f o l = y := (by unfold yvst; rw [if_neg (by omega), if_neg (by omega)]); rw [e8]; subst ho5; exact ⟨(_, _, _), x, rfl, (SStep.refl hX.ss).extR (by repeat (first | assumption | exact Ext.refl _ | refine Ext.alloc ?_ _ | refine Ext.drew ?_ | refine Ext.setB ?_ (by first | omega | (simp only [size_alloc, size_setB, size_drew]; omega)) _ | refine Ext.trans ?_ (by assumption))), rfl, rfl, NN.castY (by first | exact NN.nil _ | assumption | exact NN.ext (by assumption) (by repeat (first | assumption | exact Ext.refl _ | refine Ext.alloc ?_ _ | refine Ext.drew ?_ | refine Ext.setB ?_ (by first | omega | (simp only [size_alloc, size_setB, size_drew]; omega)) _ | exact Ext.trans (by assumption) (by assumption) | refine Ext.trans ?_ (by assumption)))) (by simp [yval] <;> omega)⟩
                                  · have hb130p := hb130.h; try simp only [al_ete, al_dfn, Bool.not_eq_true', Bool.not_eq_false', al_ne, Bool.not_not, al_nn] at hb130p
                                    refine W_seq ?_
                                    refine W_region rfl ?_
                                    refine WO_p (PS_eql rfl rfl) ?_
                                    refine WO_p (PS_assign_bool rfl) ?_
                                    refine WO_nil ?_
                                    refine thn_normal ?_
                                    refine W_if rfl (fun hb133 => ?_) (fun hb133 => ?_)
                                    · have hb133p := hb133.h; try simp only [al_ete, al_dfn, Bool.not_eq_true', Bool.not_eq_false', al_ne, Bool.not_not, al_nn] at hb133p
                                      exfalso; omega
                                    · have hb133p := hb133.h; try simp only [al_ete, al_dfn, Bool.not_eq_true', Bool.not_eq_false', al_ne, Bool.not_not, al_nn] at hb133p
                                      refine W_seq ?_
                                      refine W_region rfl ?_
                                      refine WO_p (PS_eql rfl rfl) ?_
                                      refine WO_p (PS_assign_bool rfl) ?_
                                      refine WO_nil ?_
                                      refine thn_normal ?_
                                      refine W_if rfl (fun hb135 => ?_) (fun hb135 => ?_)
                                      · have hb135p := hb135.h; try simp only [al_ete, al_dfn, Bool.not_eq_true', Bool.not_eq_false', al_ne, Bool.not_not, al_nn] at hb135p
                                        exfalso; omega
                                      · have hb135p := hb135.h; try simp only [al_ete, al_dfn, Bool.not_eq_true', Bool.not_eq_false', al_ne, Bool.not_not, al_nn] at hb135p
                                        refine W_seq ?_
                                        refine W_region rfl ?_
                                        refine WO_p (PS_eql rfl rfl) ?_
                                        refine WO_p (PS_assign_bool rfl) ?_
                                        refine WO_nil ?_
                                        refine thn_normal ?_
                                        refine W_if rfl (fun hb137 => ?_) (fun hb137 => ?_)
                                        · have hb137p := hb137.h; try simp only [al_ete, al_dfn, Bool.not_eq_true', Bool.not_eq_false', al_ne, Bool.not_not, al_nn] at hb137p
                                          exfalso; omega
                                        · have hb137p := hb137.h; try simp only [al_ete, al_dfn, Bool.not_eq_true', Bool.not_eq_false', al_ne, Bool.not_not, al_nn] at hb137p
                                          refine W_seq ?_
                                          refine W_region rfl ?_
                                          refine WO_p (PS_eql rfl rfl) ?_
                                          refine WO_p (PS_assign_bool rfl) ?_
                                          refine WO_nil ?_
                                          refine thn_normal ?_
                                          refine W_if rfl (fun hb139 => ?_) (fun hb139 => ?_)
                                          · have hb139p := hb139.h; try simp only [al_ete, al_dfn, Bool.not_eq_true', Bool.not_eq_false', al_ne, Bool.not_not, al_nn] at hb139p
                                            exfalso; omega
                                          · have hb139p := hb139.h; try simp only [al_ete, al_dfn, Bool.not_eq_true', Bool.not_eq_false', al_ne, Bool.not_not, al_nn] at hb139p
                                            refine W_seq ?_
                                            refine W_region rfl ?_
                                            refine WO_p (PS_eql rfl rfl) ?_
                                            refine WO_p (PS_assign_bool rfl) ?_
                                            refine WO_nil ?_
                                            refine thn_normal ?_
                                            refine W_if rfl (fun hb141 => ?_) (fun hb141 => ?_)
                                            · have hb141p := hb141.h; try simp only [al_ete, al_dfn, Bool.not_eq_true', Bool.not_eq_false', al_ne, Bool.not_not, al_nn] at hb141p
                                              exfalso; omega
                                            · have hb141p := hb141.h; try simp only [al_ete, al_dfn, Bool.not_eq_true', Bool.not_eq_false', al_ne, Bool.not_not, al_nn] at hb141p
                                              refine W_seq ?_
                                              refine W_region rfl ?_
                                              refine WO_p (PS_eql rfl rfl) ?_
                                              refine WO_p (PS_assign_bool rfl) ?_
                                              refine WO_nil ?_
                                              refine thn_normal ?_
                                              refine W_if rfl (fun hb143 => ?_) (fun hb143 => ?_)
                                              · have hb143p := hb143.h; try simp only [al_ete, al_dfn, Bool.not_eq_true', Bool.not_eq_false', al_ne, Bool.not_not, al_nn] at hb143p
                                                exfalso; omega
                                              · have hb143p := hb143.h; try simp only [al_ete, al_dfn, Bool.not_eq_true', Bool.not_eq_false', al_ne, Bool.not_not, al_nn] at hb143p
                                                refine W_seq ?_
                                                refine W_region rfl ?_
                                                refine WO_p (PS_eql rfl rfl) ?_
                                                refine WO_p (PS_assign_bool rfl) ?_
                                                refine WO_nil ?_
                                                refine thn_normal ?_
                                                refine W_if rfl (fun hb145 => ?_) (fun hb145 => ?_)
                                                · have hb145p := hb145.h; try simp only [al_ete, al_dfn, Bool.not_eq_true', Bool.not_eq_false', al_ne, Bool.not_not, al_nn] at hb145p
                                                  exfalso; omega
                                                · have hb145p := hb145.h; try simp only [al_ete, al_dfn, Bool.not_eq_true', Bool.not_eq_false', al_ne, Bool.not_not, al_nn] at hb145p
                                                  refine W_skip ?_
                                                  refine inBlk_normal ?_
                                                  refine thn_normal ?_
                                                  refine W_seq ?_
                                                  refine W_region rfl ?_
                                                  refine WO_p (PS_assign_slice rfl) ?_
                                                  refine WO_nil ?_
                                                  refine thn_normal ?_
                                                  refine W_ret ?_
                                                  refine bodyQ_ret1 Hvac.results126 rfl (.slice _ _ _) rfl ?_
                                                  exfalso; omega

end Go.Proofs.YgvacwGreat
