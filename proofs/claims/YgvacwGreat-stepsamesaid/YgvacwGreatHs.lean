import Derived.Test.YgvacwGreatHr
namespace Go.Proofs.YgvacwGreat
set_option linter.unusedSimpArgs false
set_option linter.unusedVariables false
def yenters (ks : List Int → List Int) (y : PSt) (rest : List PF) (f : PF) (o : Int) : PSt × List PF :=
  if o = 240 ∨ o = 245 then yenterCreate ks { y with ret := [] } rest f o else yenterCall { y with ret := [] } rest f o

set_option maxRecDepth 10000 in
set_option maxHeartbeats 4000000 in
theorem yEnters_spec [Om] (w : World) (hO : OmB w) (Y : Nat → Prop) (C : Nat) (x : YSt) (y : PSt) (xs : List YFr) (rest : List PF) (f : PF) (N : Nat) (hX : YX Y w C x y xs (rest ++ [f])) (hB : PSB N y) (hN : N ≤ 99999800) (hYB : YB y) (hP : PFB f) (hPr : ∀ g ∈ rest, PFB g ∧ sz g.gas ≤ 30) (hgf : sz f.gas ≤ 30) (hrl : rest.length ≤ 800) (F : Nat) (hFp : x.frames.1 = some ⟨F, 0, none⟩) (ks : List Int → List Int) (hK : KSum ks) (o : Int) (ho : o = 240 ∨ o = 245 ∨ o = 241 ∨ o = 242 ∨ o = 244 ∨ o = 250) (hst : (ytakes o).toNat ≤ f.stack.length) (hin : o = 240 ∨ o = 245 → yarg f 2 ≤ 1000000) (hin2 : ¬ (o = 240 ∨ o = 245) → yarg f (yck o + 1) ≤ 1000000) (hfv : sz f.value ≤ 32) : Ret Hvac.prog 50 #[.pointer (some ⟨C, 0, none⟩), .pointer (some ⟨F, rest.length * 60, none⟩), .int .u8 o] w fun u w' => u = .tuple #[] ∧ YRet Y w w' C (yenters ks y rest f o).1 (yenters ks y rest f o).2 := by
  have hO0 := hO
  have hSb := hX.ss.blk
  have hSS := hX.ss
  have hSo := hX.ss.om
  have hSl := hSb.lt
  obtain ⟨r, xf, hxf, hFM, hMW, hYF, hlf⟩ := hX.top hFp
  have hFR := hFM.rel
  have hFC := hFM.fc
  have hFb := hFM.blk
  have hFo := hFM.om
  have hFl := hFb.lt
  have hFsz := hFC.size
  have hFS := hFM.s0
  have hk12 := hFC.self
  rw [hFR.self] at hk12
  have hsbl := hFR.sb.1
  have hzs := encYS_size x
  have hfcap := hX.frs.cap
  refine Ret_of_W Hvac.func50 rfl rfl ?_
  refine W_seq ?_
  refine W_region rfl ?_
  refine WO_p (PS_move_ptr rfl) ?_
  refine WO_p (PS_nilCheck rfl) ?_
  refine WO_p (PS_fieldAddr 10 Hvac.runUnderlying99 rfl Hvac.sizeOf32 rfl rfl) ?_
  refine WO_store1 Hvac.sizeOf32 rfl (v := (.slice _ _ _)) rfl (Hb.h (by repeat (first | assumption | exact Hb.newY _ _ | refine Hb.alloc ?_ | refine Hb.drew ?_ | refine Hb.ext (by assumption) ?_ | exact Hb.setSameL (by first | omega | (simp only [size_alloc, size_setB, size_drew]; omega)) | exact Hb.setSame (by assumption) | refine Hb.set (by first | omega | (simp only [size_alloc, size_setB, size_drew]; omega)) ?_ ))) rfl (by first | omega | assumption | rfl | decide | exact Nat.le_refl _ | (simp only [size_ic, Value.cells]; omega) | (simp [encWs]; done) | (simp; omega) | simp | exact encYA_sz (by assumption) | exact encYT_sz (by assumption) | exact encYM_sz (by assumption)) rfl ?_
  refine WO_nil ?_
  refine thn_normal ?_
  refine W_seq ?_
  refine W_gen fun w0 hw0 => ?_
  have hT0 : SStep w w0 C ({ x with ret := (none, 0, 0) }) ({ y with ret := [] }) := SStep.put2 hw0 hSS (by repeat (first | assumption | exact Ext.refl _ | refine Ext.alloc ?_ _ | refine Ext.drew ?_ | refine Ext.setB ?_ (by first | omega | (simp only [size_alloc, size_setB, size_drew]; omega)) _ | refine Ext.trans ?_ (by assumption))) (encYS_10 x (none, 0, 0)) ({ StRel.ext hSS.rel (by repeat (first | assumption | exact Ext.refl _ | refine Ext.alloc ?_ _ | refine Ext.drew ?_ | refine Ext.setB ?_ (by first | omega | (simp only [size_alloc, size_setB, size_drew]; omega)) _ | refine Ext.trans ?_ (by assumption))) with ret := PB.nil _ })
  have hK0 := hT0.keep
  have hKO0 := hT0.ko
  replace hO := hO.keep hKO0
  have hSS0 := hT0.ss
  have hSb0 := hSS0.blk
  have hSl0 := hSb0.lt
  have hz0 := hK0.sz
  have hzs0 := encYS_size ({ x with ret := (none, 0, 0) })
  clear hw0
  have hX1 := hX.sstep hT0 rfl rfl
  have hB1 : PSB N { y with ret := [] } := { hB with rl := Nat.zero_le _ }
  have hzK0 := hT0.keep.sz
  refine W_region rfl ?_
  refine WO_p (PS_move_int rfl) ?_
  refine WO_p (PS_eql rfl rfl) ?_
  refine WO_p (PS_move_bool rfl) ?_
  refine WO_if (t := 11) rfl (fun hb2 => ?_) (fun hb2 => ?_)
  · have hb2p := hb2.h; try simp only [al_ete, al_dfn, Bool.not_eq_true', Bool.not_eq_false', al_ne, Bool.not_not, al_nn] at hb2p
    skip
    have ho5 : o = 240 := by omega
    refine WO_guardF rfl rfl hb2.h ?_
    refine WO_guardF rfl rfl hb2.h ?_
    refine WO_p (PS_pickT rfl hb2.h rfl) ?_
    refine WO_nil ?_
    refine thn_normal ?_
    refine W_condT rfl rfl ?_
    refine W_region rfl ?_
    refine WO_p (PS_move_ptr rfl) ?_
    refine WO_p (PS_move_ptr rfl) ?_
    refine WO_p (PS_move_int rfl) ?_
    refine WO_call Hvac.call123 (by rfl) (Ret.mono (yEnterCreate_spec _ (OmB.ext hO (by repeat (first | assumption | exact Ext.refl _ | refine Ext.alloc ?_ _ | refine Ext.drew ?_ | refine Ext.setB ?_ (by first | omega | (simp only [size_alloc, size_setB, size_drew]; omega)) _ | exact Ext.trans (by assumption) (by assumption) | refine Ext.trans ?_ (by assumption)))) Y C _ _ _ _ _ _ (YX.ext hX1 (by repeat (first | assumption | exact Ext.refl _ | refine Ext.alloc ?_ _ | refine Ext.drew ?_ | refine Ext.setB ?_ (by first | omega | (simp only [size_alloc, size_setB, size_drew]; omega)) _ | exact Ext.trans (by assumption) (by assumption) | refine Ext.trans ?_ (by assumption)))) hB1 hN hYB hP hPr hgf hrl F hFp ks hK _ (by omega) hst (hin (by omega))) ?_)
    rintro _ w9 ⟨rfl, hY9⟩
    refine WO_nil ?_
    first | refine bodyQ_ret0 Hvac.results50 ?_ | refine bodyQ_end0 Hvac.results50 ?_
    have e9 : yenters ks y rest f o = yenterCreate ks { y with ret := [] } rest f o := (by unfold yenters; rw [if_pos (by omega)]); rw [e9]; exact ⟨rfl, YRet.pre ((KeepO.mono hT0.keep (fun b e => e ▸ hX.yc)).extR (by repeat (first | assumption | exact Ext.refl _ | refine Ext.alloc ?_ _ | refine Ext.drew ?_ | refine Ext.setB ?_ (by first | omega | (simp only [size_alloc, size_setB, size_drew]; omega)) _ | refine Ext.trans ?_ (by assumption)))) hY9⟩
  · have hb2p := hb2.h; try simp only [al_ete, al_dfn, Bool.not_eq_true', Bool.not_eq_false', al_ne, Bool.not_not, al_nn] at hb2p
    refine WO_guardT rfl rfl hb2.h ?_
    refine WO_p (PS_move_int rfl) ?_
    refine WO_guardT rfl rfl hb2.h ?_
    refine WO_p (PS_eql rfl rfl) ?_
    refine WO_p (PS_pickF rfl hb2.h rfl) ?_
    refine WO_nil ?_
    refine thn_normal ?_
    refine W_if rfl (fun hb5 => ?_) (fun hb5 => ?_)
    · have hb5p := hb5.h; try simp only [al_ete, al_dfn, Bool.not_eq_true', Bool.not_eq_false', al_ne, Bool.not_not, al_nn] at hb5p
      skip
      have ho5 : o = 245 := by omega
      refine W_region rfl ?_
      refine WO_p (PS_move_ptr rfl) ?_
      refine WO_p (PS_move_ptr rfl) ?_
      refine WO_p (PS_move_int rfl) ?_
      refine WO_call Hvac.call123 (by rfl) (Ret.mono (yEnterCreate_spec _ (OmB.ext hO (by repeat (first | assumption | exact Ext.refl _ | refine Ext.alloc ?_ _ | refine Ext.drew ?_ | refine Ext.setB ?_ (by first | omega | (simp only [size_alloc, size_setB, size_drew]; omega)) _ | exact Ext.trans (by assumption) (by assumption) | refine Ext.trans ?_ (by assumption)))) Y C _ _ _ _ _ _ (YX.ext hX1 (by repeat (first | assumption | exact Ext.refl _ | refine Ext.alloc ?_ _ | refine Ext.drew ?_ | refine Ext.setB ?_ (by first | omega | (simp only [size_alloc, size_setB, size_drew]; omega)) _ | exact Ext.trans (by assumption) (by assumption) | refine Ext.trans ?_ (by assumption)))) hB1 hN hYB hP hPr hgf hrl F hFp ks hK _ (by omega) hst (hin (by omega))) ?_)
      rintro _ w9 ⟨rfl, hY9⟩
      refine WO_nil ?_
      first | refine bodyQ_ret0 Hvac.results50 ?_ | refine bodyQ_end0 Hvac.results50 ?_
      have e9 : yenters ks y rest f o = yenterCreate ks { y with ret := [] } rest f o := (by unfold yenters; rw [if_pos (by omega)]); rw [e9]; exact ⟨rfl, YRet.pre ((KeepO.mono hT0.keep (fun b e => e ▸ hX.yc)).extR (by repeat (first | assumption | exact Ext.refl _ | refine Ext.alloc ?_ _ | refine Ext.drew ?_ | refine Ext.setB ?_ (by first | omega | (simp only [size_alloc, size_setB, size_drew]; omega)) _ | refine Ext.trans ?_ (by assumption)))) hY9⟩
    · have hb5p := hb5.h; try simp only [al_ete, al_dfn, Bool.not_eq_true', Bool.not_eq_false', al_ne, Bool.not_not, al_nn] at hb5p
      skip
      refine W_region rfl ?_
      refine WO_p (PS_move_ptr rfl) ?_
      refine WO_p (PS_move_ptr rfl) ?_
      refine WO_p (PS_move_int rfl) ?_
      refine WO_call Hvac.call124 (by rfl) (Ret.mono (yEnterCall_spec _ (OmB.ext hO (by repeat (first | assumption | exact Ext.refl _ | refine Ext.alloc ?_ _ | refine Ext.drew ?_ | refine Ext.setB ?_ (by first | omega | (simp only [size_alloc, size_setB, size_drew]; omega)) _ | exact Ext.trans (by assumption) (by assumption) | refine Ext.trans ?_ (by assumption)))) Y C _ _ _ _ _ _ (YX.ext hX1 (by repeat (first | assumption | exact Ext.refl _ | refine Ext.alloc ?_ _ | refine Ext.drew ?_ | refine Ext.setB ?_ (by first | omega | (simp only [size_alloc, size_setB, size_drew]; omega)) _ | exact Ext.trans (by assumption) (by assumption) | refine Ext.trans ?_ (by assumption)))) hB1 hN hYB hP hPr hgf hrl F hFp _ (by omega) hst (hin2 (by omega)) hfv) ?_)
      rintro _ w9 ⟨rfl, hY9⟩
      refine WO_nil ?_
      first | refine bodyQ_ret0 Hvac.results50 ?_ | refine bodyQ_end0 Hvac.results50 ?_
      have e9 : yenters ks y rest f o = yenterCall { y with ret := [] } rest f o := (by unfold yenters; rw [if_neg (by omega)]); rw [e9]; exact ⟨rfl, YRet.pre ((KeepO.mono hT0.keep (fun b e => e ▸ hX.yc)).extR (by repeat (first | assumption | exact Ext.refl _ | refine Ext.alloc ?_ _ | refine Ext.drew ?_ | refine Ext.setB ?_ (by first | omega | (simp only [size_alloc, size_setB, size_drew]; omega)) _ | refine Ext.trans ?_ (by assumption)))) hY9⟩

end Go.Proofs.YgvacwGreat
