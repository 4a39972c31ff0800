import Derived.Test.YgvacwGreatHj
namespace Go.Proofs.YgvacwGreat
set_option linter.unusedSimpArgs false
set_option linter.unusedVariables false
def ysRef (y : PSt) (n : Nat) : PSt := { y with now := { y.now with ref := n } }
def xsRef (x : YSt) (s : SV) : YSt := { x with now := { x.now with ref := s } }
def yst1 (y : PSt) (f : PF) : PSt := ysRef y (y.now.ref - (ysstA y f).2.2 + (ysstA y f).2.1)
def yst2 (y : PSt) (f : PF) (k : Nat) : PSt := ysWarmS (yst1 y f) (ymk y.now.warmS f.self k)
def ystores (y : PSt) (f : PF) (k v : Nat) : PSt := ysAccts (yst2 y f k) (ystore y.now.accts f.self k v)
theorem sz_ysst3 (y : PSt) (f : PF) : sz (ysstA y f).1 ≤ 8 ∧ sz (ysstA y f).2.1 ≤ 8 ∧ sz (ysstA y f).2.2 ≤ 8 := sz_ysst _ _ _ _
theorem PSB.st1 {N : Nat} {y : PSt} (h : PSB N y) (hr : sz y.now.ref ≤ 30) (f : PF) : PSB N (yst1 y f) := by
  have h9 : sz (y.now.ref - (ysstA y f).2.2 + (ysstA y f).2.1) ≤ 40 := by
    have h1 := sz_add (y.now.ref - (ysstA y f).2.2) (ysstA y f).2.1
    have h2 : sz (y.now.ref - (ysstA y f).2.2) ≤ sz y.now.ref := sz_mono (Nat.sub_le _ _)
    have h3 := (sz_ysst3 y f).2.1
    omega
  exact { h with now := { h.now with rz := h9 } }

set_option maxRecDepth 10000 in
set_option maxHeartbeats 4000000 in
theorem yStores_spec [Om] (w : World) (hO : OmB w) (Y : Nat → Prop) (C : Nat) (x : YSt) (y : PSt) (xs : List YFr) (rest : List PF) (f : PF) (N : Nat) (hX : YX Y w C x y xs (rest ++ [f])) (hB : PSB N y) (hN : N ≤ 99999800) (hYB : YB y) (hP : PFB f) (hPr : ∀ g ∈ rest, PFB g ∧ sz g.gas ≤ 30) (hgf : sz f.gas ≤ 30) (hrl : rest.length ≤ 800) (F : Nat) (hFp : x.frames.1 = some ⟨F, 0, none⟩) (hrz : sz y.now.ref ≤ 30) (kp : Option Addr) (kn kc k : Nat) (hk : NN w (kp, kn, kc) k) (zk : sz k ≤ 32) (vp : Option Addr) (vn vc v : Nat) (hv : NN w (vp, vn, vc) v) (zv : sz v ≤ 32) : Ret Hvac.prog 209 #[.pointer (some ⟨C, 0, none⟩), .pointer (some ⟨F, rest.length * 60, none⟩), .slice kp kn kc, .slice vp vn vc] w fun u w' => u = .bool (decide ((ysstA y f).2.2 ≤ y.now.ref)) ∧ (¬ (ysstA y f).2.2 ≤ y.now.ref → Ext w w') ∧ ((ysstA y f).2.2 ≤ y.now.ref → ∃ x', SStep w w' C x' (ystores y f k v) ∧ x'.frames = x.frames ∧ x'.now.logs = x.now.logs) := by
  have hO0 := hO
  have hSb := hX.ss.blk
  have hSS := hX.ss
  have hSo := hX.ss.om
  have hSl := hSb.lt
  obtain ⟨r, xf, hxf, hFM, hMW, hYF, hlf⟩ := hX.top hFp
  have hFR := hFM.rel
  have hFC := hFM.fc
  have hFb := hFM.blk
  have hFo := hFM.om
  have hFl := hFb.lt
  have hFsz := hFC.size
  have hFS := hFM.s0
  have hk12 := hFC.self
  rw [hFR.self] at hk12
  have hsbl := hFR.sb.1
  have hzs := encYS_size x
  have hfcap := hX.frs.cap
  have hNr := hX.ss.rel.now.ref
  have hrz2 := hB.now.rz
  refine Ret_of_W Hvac.func209 rfl rfl ?_
  refine W_seq ?_
  refine W_region rfl ?_
  refine WO_p (PS_assign_bool rfl) ?_
  refine WO_nil ?_
  refine thn_normal ?_
  refine W_seq ?_
  refine W_region rfl ?_
  refine WO_p (PS_move_ptr rfl) ?_
  refine WO_p (PS_move_ptr rfl) ?_
  refine WO_call Hvac.call298 (by rfl) (Ret.mono (ySstoreA_spec _ (OmB.ext hO (by repeat (first | assumption | exact Ext.refl _ | refine Ext.alloc ?_ _ | refine Ext.drew ?_ | refine Ext.setB ?_ (by first | omega | (simp only [size_alloc, size_setB, size_drew]; omega)) _ | exact Ext.trans (by assumption) (by assumption) | refine Ext.trans ?_ (by assumption)))) _ _ _ _ (by first | assumption | exact YSS.ext (by assumption) (by repeat (first | assumption | exact Ext.refl _ | refine Ext.alloc ?_ _ | refine Ext.drew ?_ | refine Ext.setB ?_ (by first | omega | (simp only [size_alloc, size_setB, size_drew]; omega)) _ | exact Ext.trans (by assumption) (by assumption) | refine Ext.trans ?_ (by assumption)))) hB (by omega) _ _ _ _ (by first | assumption | exact FrS.ext (by assumption) (by repeat (first | assumption | exact Ext.refl _ | refine Ext.alloc ?_ _ | refine Ext.drew ?_ | refine Ext.setB ?_ (by first | omega | (simp only [size_alloc, size_setB, size_drew]; omega)) _ | exact Ext.trans (by assumption) (by assumption) | refine Ext.trans ?_ (by assumption)))) hP) ?_)
  rintro _ w1 ⟨hE1, s11, s21, s31, rfl, hN11, hN21, hN31⟩
  have hz1 := hE1.1
  try simp only [size_alloc, size_setB, size_drew] at hz1
  obtain ⟨hz11, hz12, hz13⟩ := sz_ysst3 y f
  refine WO_p (PS_move_tuple rfl) ?_
  refine WO_p (PS_extract_slice rfl rfl) ?_
  refine WO_p (PS_extract_slice rfl rfl) ?_
  refine WO_p (PS_extract_slice rfl rfl) ?_
  refine WO_p (PS_assign_slice rfl) ?_
  refine WO_p (PS_assign_slice rfl) ?_
  refine WO_p (PS_assign_slice rfl) ?_
  refine WO_nil ?_
  refine thn_normal ?_
  refine W_seq ?_
  refine W_region rfl ?_
  refine WO_p (PS_move_ptr rfl) ?_
  refine WO_p (PS_nilCheck rfl) ?_
  refine WO_p (PS_fieldAddr 0 Hvac.runUnderlying99 rfl Hvac.sizeOf95 rfl rfl) ?_
  refine WO_p (PS_fieldAddr 3 Hvac.runUnderlying95 rfl Hvac.sizeOf92 rfl rfl) ?_
  refine WO_load (.slice _ _ _) Hvac.isAgg92 rfl (Hb.h (by repeat (first | assumption | exact Hb.newY _ _ | refine Hb.alloc ?_ | refine Hb.drew ?_ | refine Hb.ext (by assumption) ?_ | exact Hb.setSameL (by first | omega | (simp only [size_alloc, size_setB, size_drew]; omega)) | exact Hb.setSame (by assumption) | refine Hb.set (by first | omega | (simp only [size_alloc, size_setB, size_drew]; omega)) ?_ ))) (Ce.h (by first | assumption | exact ⟨rfl⟩)) ?_
  refine WO_p (PS_move_slice rfl) ?_
  refine WO_call Hvac.call82 (by rfl) (Ret.mono (nSub_spec (OmB.ext hO (by repeat (first | assumption | exact Ext.refl _ | refine Ext.alloc ?_ _ | refine Ext.drew ?_ | refine Ext.setB ?_ (by first | omega | (simp only [size_alloc, size_setB, size_drew]; omega)) _ | exact Ext.trans (by assumption) (by assumption) | refine Ext.trans ?_ (by assumption)))) (by first | exact NN.nil _ | assumption | exact NN.ext (by assumption) (by repeat (first | assumption | exact Ext.refl _ | refine Ext.alloc ?_ _ | refine Ext.drew ?_ | refine Ext.setB ?_ (by first | omega | (simp only [size_alloc, size_setB, size_drew]; omega)) _ | exact Ext.trans (by assumption) (by assumption) | refine Ext.trans ?_ (by assumption)))) (by first | exact NN.nil _ | assumption | exact NN.ext (by assumption) (by repeat (first | assumption | exact Ext.refl _ | refine Ext.alloc ?_ _ | refine Ext.drew ?_ | refine Ext.setB ?_ (by first | omega | (simp only [size_alloc, size_setB, size_drew]; omega)) _ | exact Ext.trans (by assumption) (by assumption) | refine Ext.trans ?_ (by assumption)))) (by first | assumption | omega | (rw [sz_zero]; omega)) (by first | assumption | omega | (rw [sz_zero]; omega))) ?_)
  rintro _ w82_1 ⟨hE82_1, s82_1, rfl, hN82_1⟩
  have hz82_1 := hE82_1.1
  try simp only [size_alloc, size_setB, size_drew] at hz82_1
  have hs82_1 := hN82_1.z_sub
  refine WO_p (PS_move_tuple rfl) ?_
  refine WO_p (PS_extract_slice rfl rfl) ?_
  refine WO_p (PS_extract_bool rfl rfl) ?_
  refine WO_p (PS_assign_slice rfl) ?_
  refine WO_p (PS_assign_bool rfl) ?_
  refine WO_nil ?_
  refine thn_normal ?_
  refine W_seq ?_
  refine W_seq ?_
  refine W_region rfl ?_
  refine WO_p (PS_move_bool rfl) ?_
  refine WO_p (PS_not rfl) ?_
  refine WO_nil ?_
  refine thn_normal ?_
  refine W_if rfl (fun hb5 => ?_) (fun hb5 => ?_)
  · have hb5p := hb5.h; try simp only [al_ete, al_dfn, Bool.not_eq_true', Bool.not_eq_false', al_ne, Bool.not_not, al_nn] at hb5p
    have hm9 : ¬ (ysstA y f).2.2 ≤ y.now.ref := by simpa using hb5p
    refine W_seq ?_
    refine W_region rfl ?_
    refine WO_p (PS_assign_bool rfl) ?_
    refine WO_nil ?_
    refine thn_normal ?_
    refine W_ret ?_
    refine thn_ret ?_
    refine bodyQ_ret1 Hvac.results209 rfl (.bool _) rfl ?_
    exact ⟨congrArg Value.bool (al_ef hm9).symm, fun _ => (by repeat (first | assumption | exact Ext.refl _ | refine Ext.alloc ?_ _ | refine Ext.drew ?_ | refine Ext.setB ?_ (by first | omega | (simp only [size_alloc, size_setB, size_drew]; omega)) _ | refine Ext.trans ?_ (by assumption))), fun h9 => absurd h9 hm9⟩
  · have hb5p := hb5.h; try simp only [al_ete, al_dfn, Bool.not_eq_true', Bool.not_eq_false', al_ne, Bool.not_not, al_nn] at hb5p
    have hm9 : (ysstA y f).2.2 ≤ y.now.ref := by simpa using hb5p
    refine W_skip ?_
    refine thn_normal ?_
    refine W_seq ?_
    refine W_region rfl ?_
    refine WO_p (PS_move_ptr rfl) ?_
    refine WO_p (PS_move_slice rfl) ?_
    refine WO_p (PS_move_slice rfl) ?_
    refine WO_call Hvac.call24 (by rfl) (Ret.mono (nAdd_spec (OmB.ext hO (by repeat (first | assumption | exact Ext.refl _ | refine Ext.alloc ?_ _ | refine Ext.drew ?_ | refine Ext.setB ?_ (by first | omega | (simp only [size_alloc, size_setB, size_drew]; omega)) _ | exact Ext.trans (by assumption) (by assumption) | refine Ext.trans ?_ (by assumption)))) (by first | exact NN.nil _ | assumption | exact NN.ext (by assumption) (by repeat (first | assumption | exact Ext.refl _ | refine Ext.alloc ?_ _ | refine Ext.drew ?_ | refine Ext.setB ?_ (by first | omega | (simp only [size_alloc, size_setB, size_drew]; omega)) _ | exact Ext.trans (by assumption) (by assumption) | refine Ext.trans ?_ (by assumption)))) (by first | exact NN.nil _ | assumption | exact NN.ext (by assumption) (by repeat (first | assumption | exact Ext.refl _ | refine Ext.alloc ?_ _ | refine Ext.drew ?_ | refine Ext.setB ?_ (by first | omega | (simp only [size_alloc, size_setB, size_drew]; omega)) _ | exact Ext.trans (by assumption) (by assumption) | refine Ext.trans ?_ (by assumption)))) (by first | assumption | omega | (rw [sz_zero]; omega)) (by first | assumption | omega | (rw [sz_zero]; omega))) ?_)
    rintro _ w24_5 ⟨hE24_5, s5, rfl, hN5⟩
    have hz24_5 := hE24_5.1
    try simp only [size_alloc, size_setB, size_drew] at hz24_5
    refine WO_p (PS_nilCheck rfl) ?_
    refine WO_p (PS_fieldAddr 0 Hvac.runUnderlying99 rfl Hvac.sizeOf95 rfl rfl) ?_
    refine WO_p (PS_fieldAddr 3 Hvac.runUnderlying95 rfl Hvac.sizeOf92 rfl rfl) ?_
    refine WO_store1 Hvac.sizeOf92 rfl (v := (.slice _ _ _)) rfl (Hb.h (by repeat (first | assumption | exact Hb.newY _ _ | refine Hb.alloc ?_ | refine Hb.drew ?_ | refine Hb.ext (by assumption) ?_ | exact Hb.setSameL (by first | omega | (simp only [size_alloc, size_setB, size_drew]; omega)) | exact Hb.setSame (by assumption) | refine Hb.set (by first | omega | (simp only [size_alloc, size_setB, size_drew]; omega)) ?_ ))) rfl (by first | omega | assumption | rfl | decide | exact Nat.le_refl _ | (simp only [size_ic, Value.cells]; omega) | (simp [encWs]; done) | (simp; omega) | simp | exact encYA_sz (by assumption) | exact encYT_sz (by assumption) | exact encYM_sz (by assumption)) rfl ?_
    refine WO_nil ?_
    refine thn_normal ?_
    refine W_seq ?_
    refine W_gen fun w5 hw5 => ?_
    have hT5 : SStep w w5 C (xsRef x s5) (yst1 y f) := SStep.put2 hw5 hSS (by repeat (first | assumption | exact Ext.refl _ | refine Ext.alloc ?_ _ | refine Ext.drew ?_ | refine Ext.setB ?_ (by first | omega | (simp only [size_alloc, size_setB, size_drew]; omega)) _ | refine Ext.trans ?_ (by assumption))) (encYS_3 x s5) ({ StRel.ext hSS.rel (by repeat (first | assumption | exact Ext.refl _ | refine Ext.alloc ?_ _ | refine Ext.drew ?_ | refine Ext.setB ?_ (by first | omega | (simp only [size_alloc, size_setB, size_drew]; omega)) _ | refine Ext.trans ?_ (by assumption))) with now := { (StRel.ext hSS.rel (by repeat (first | assumption | exact Ext.refl _ | refine Ext.alloc ?_ _ | refine Ext.drew ?_ | refine Ext.setB ?_ (by first | omega | (simp only [size_alloc, size_setB, size_drew]; omega)) _ | refine Ext.trans ?_ (by assumption)))).now with ref := (by first | exact NN.nil _ | assumption | exact NN.ext (by assumption) (by repeat (first | assumption | exact Ext.refl _ | refine Ext.alloc ?_ _ | refine Ext.drew ?_ | refine Ext.setB ?_ (by first | omega | (simp only [size_alloc, size_setB, size_drew]; omega)) _ | refine Ext.trans ?_ (by assumption)))) } })
    have hK5 := hT5.keep
    have hKO5 := hT5.ko
    replace hO := hO.keep hKO5
    have hSS5 := hT5.ss
    have hSb5 := hSS5.blk
    have hSl5 := hSb5.lt
    have hz5 := hK5.sz
    have hzs5 := encYS_size (xsRef x s5)
    clear hw5
    have hX5 := hX.sstep hT5 rfl rfl
    have hM5 := hFM.cs hX.ss.blk hX.ss.om hT5.keep
    have hFb5 := hM5.blk
    have hFl5 := hFb5.lt
    have hk5 := hk.keep hKO5
    have hv5 := hv.keep hKO5
    have hB5 := hB.st1 hrz f
    refine W_drawE [false, false, false, false, false, false, false, false, false] hmix (by kernel_rfl) rfl ?_
    refine WH_p (PS_move_ptr rfl) rfl ?_
    refine WH_p (PS_nilCheck rfl) rfl ?_
    refine WH_p (PS_fieldAddr 0 Hvac.runUnderlying99 rfl Hvac.sizeOf95 rfl rfl) rfl ?_
    refine WH_p (PS_move_ptr rfl) rfl ?_
    refine WH_p (PS_nilCheck rfl) rfl ?_
    refine WH_p (PS_fieldAddr 12 Hvac.runUnderlying121 rfl Hvac.sizeOf25 rfl rfl) rfl ?_
    refine WH_loadA _ Hvac.isAgg25 Hvac.sizeOf25 rfl (Hb.h (by repeat (first | assumption | exact Hb.newY _ _ | refine Hb.alloc ?_ | refine Hb.drew ?_ | refine Hb.ext (by assumption) ?_ | exact Hb.setSameL (by first | omega | (simp only [size_alloc, size_setB, size_drew]; omega)) | exact Hb.setSame (by assumption) | refine Hb.set (by first | omega | (simp only [size_alloc, size_setB, size_drew]; omega)) ?_ ))) (by first | omega | assumption | rfl | decide | exact Nat.le_refl _ | (simp only [size_ic, Value.cells]; omega) | (simp [encWs]; done) | (simp; omega) | simp | exact encYA_sz (by assumption) | exact encYT_sz (by assumption) | exact encYM_sz (by assumption)) (Xt.h (by first | assumption | exact Xt.whole rfl rfl | exact Xt.whole rfl (by assumption) | exact Xt.whole rfl (by simp only [size_ic, Value.cells]; omega) | exact ⟨rfl⟩)) ?_
    refine WH_p (PS_move_slice rfl) rfl ?_
    refine WH_call Hvac.call28 (by rfl) (Ret.mono (warmSlotS (OmB.ext hO (by repeat (first | assumption | exact Ext.refl _ | refine Ext.alloc ?_ _ | refine Ext.drew ?_ | refine Ext.setB ?_ (by first | omega | (simp only [size_alloc, size_setB, size_drew]; omega)) _ | exact Ext.trans (by assumption) (by assumption) | refine Ext.trans ?_ (by assumption)))) (by first | assumption | exact YSS.ext (by assumption) (by repeat (first | assumption | exact Ext.refl _ | refine Ext.alloc ?_ _ | refine Ext.drew ?_ | refine Ext.setB ?_ (by first | omega | (simp only [size_alloc, size_setB, size_drew]; omega)) _ | exact Ext.trans (by assumption) (by assumption) | refine Ext.trans ?_ (by assumption)))) hB5 (by omega) hFR.sb (by first | exact NN.nil _ | assumption | exact NN.ext (by assumption) (by repeat (first | assumption | exact Ext.refl _ | refine Ext.alloc ?_ _ | refine Ext.drew ?_ | refine Ext.setB ?_ (by first | omega | (simp only [size_alloc, size_setB, size_drew]; omega)) _ | exact Ext.trans (by assumption) (by assumption) | refine Ext.trans ?_ (by assumption)))) zk) ?_)
    rintro _ w6 ⟨rfl, s6, hT6⟩
    refine ⟨(fun h => by cases h), ?_⟩
    have hTa6 : SStep w5 w6 C (xsWarmS (xsRef x s5) s6) (yst2 y f k) := SStep.pre (by repeat (first | assumption | exact Ext.refl _ | refine Ext.alloc ?_ _ | refine Ext.drew ?_ | refine Ext.setB ?_ (by first | omega | (simp only [size_alloc, size_setB, size_drew]; omega)) _ | refine Ext.trans ?_ (by assumption))) hT6
    have hX6 := hX5.sstep hTa6 rfl rfl
    have hM6 := hM5.cs hX5.ss.blk hX5.ss.om hTa6.keep
    have hS6 := hM6.s0
    have hSS6 := hX6.ss
    have hSb6 := hSS6.blk
    have hSl6 := hSb6.lt
    have hFb6 := hM6.blk
    have hFl6 := hFb6.lt
    replace hO := hX6.omb
    have hz6 := hTa6.keep.sz
    have hzs6 := encYS_size (xsWarmS (xsRef x s5) s6)
    have hk6 := (NN.ext hk5 (by repeat (first | assumption | exact Ext.refl _ | refine Ext.alloc ?_ _ | refine Ext.drew ?_ | refine Ext.setB ?_ (by first | omega | (simp only [size_alloc, size_setB, size_drew]; omega)) _ | refine Ext.trans ?_ (by assumption)))).keep hTa6.ko
    have hv6 := (NN.ext hv5 (by repeat (first | assumption | exact Ext.refl _ | refine Ext.alloc ?_ _ | refine Ext.drew ?_ | refine Ext.setB ?_ (by first | omega | (simp only [size_alloc, size_setB, size_drew]; omega)) _ | refine Ext.trans ?_ (by assumption)))).keep hTa6.ko
    have hB6 : PSB (N + 1) (yst2 y f k) := hB5.warmS f.self k
    refine WH_nil ?_
    refine thn_normal ?_
    refine W_seq ?_
    refine W_drawE [false, false, false, false, false, false, false, false, false, false] hmix (by kernel_rfl) rfl ?_
    refine WH_p (PS_move_ptr rfl) rfl ?_
    refine WH_p (PS_nilCheck rfl) rfl ?_
    refine WH_p (PS_fieldAddr 0 Hvac.runUnderlying99 rfl Hvac.sizeOf95 rfl rfl) rfl ?_
    refine WH_p (PS_move_ptr rfl) rfl ?_
    refine WH_p (PS_nilCheck rfl) rfl ?_
    refine WH_p (PS_fieldAddr 12 Hvac.runUnderlying121 rfl Hvac.sizeOf25 rfl rfl) rfl ?_
    refine WH_loadA _ Hvac.isAgg25 Hvac.sizeOf25 rfl (Hb.h (by repeat (first | assumption | exact Hb.newY _ _ | refine Hb.alloc ?_ | refine Hb.drew ?_ | refine Hb.ext (by assumption) ?_ | exact Hb.setSameL (by first | omega | (simp only [size_alloc, size_setB, size_drew]; omega)) | exact Hb.setSame (by assumption) | refine Hb.set (by first | omega | (simp only [size_alloc, size_setB, size_drew]; omega)) ?_ ))) (by first | omega | assumption | rfl | decide | exact Nat.le_refl _ | (simp only [size_ic, Value.cells]; omega) | (simp [encWs]; done) | (simp; omega) | simp | exact encYA_sz (by assumption) | exact encYT_sz (by assumption) | exact encYM_sz (by assumption)) (Xt.h (by first | assumption | exact Xt.whole rfl rfl | exact Xt.whole rfl (by assumption) | exact Xt.whole rfl (by simp only [size_ic, Value.cells]; omega) | exact ⟨rfl⟩)) ?_
    refine WH_p (PS_move_slice rfl) rfl ?_
    refine WH_p (PS_move_slice rfl) rfl ?_
    refine WH_call Hvac.call313 (by rfl) (Ret.mono (storeS (OmB.ext hO (by repeat (first | assumption | exact Ext.refl _ | refine Ext.alloc ?_ _ | refine Ext.drew ?_ | refine Ext.setB ?_ (by first | omega | (simp only [size_alloc, size_setB, size_drew]; omega)) _ | exact Ext.trans (by assumption) (by assumption) | refine Ext.trans ?_ (by assumption)))) (by first | assumption | exact YSS.ext (by assumption) (by repeat (first | assumption | exact Ext.refl _ | refine Ext.alloc ?_ _ | refine Ext.drew ?_ | refine Ext.setB ?_ (by first | omega | (simp only [size_alloc, size_setB, size_drew]; omega)) _ | exact Ext.trans (by assumption) (by assumption) | refine Ext.trans ?_ (by assumption)))) hB6 (by omega) hFR.sb (by first | exact NN.nil _ | assumption | exact NN.ext (by assumption) (by repeat (first | assumption | exact Ext.refl _ | refine Ext.alloc ?_ _ | refine Ext.drew ?_ | refine Ext.setB ?_ (by first | omega | (simp only [size_alloc, size_setB, size_drew]; omega)) _ | exact Ext.trans (by assumption) (by assumption) | refine Ext.trans ?_ (by assumption)))) zk (by first | exact NN.nil _ | assumption | exact NN.ext (by assumption) (by repeat (first | assumption | exact Ext.refl _ | refine Ext.alloc ?_ _ | refine Ext.drew ?_ | refine Ext.setB ?_ (by first | omega | (simp only [size_alloc, size_setB, size_drew]; omega)) _ | exact Ext.trans (by assumption) (by assumption) | refine Ext.trans ?_ (by assumption)))) zv) ?_)
    rintro _ w7 ⟨rfl, s7, hT7⟩
    refine ⟨(fun h => by cases h), ?_⟩
    refine WH_nil ?_
    refine thn_normal ?_
    refine W_seq ?_
    refine W_region rfl ?_
    refine WO_p (PS_assign_bool rfl) ?_
    refine WO_nil ?_
    refine thn_normal ?_
    refine W_ret ?_
    refine bodyQ_ret1 Hvac.results209 rfl (.bool _) rfl ?_
    exact ⟨congrArg Value.bool (al_et hm9).symm, fun h9 => absurd hm9 h9, fun _ => ⟨xsAccts (xsWarmS (xsRef x s5) s6) s7, ((hT5.trans hTa6).trans (SStep.pre (by repeat (first | assumption | exact Ext.refl _ | refine Ext.alloc ?_ _ | refine Ext.drew ?_ | refine Ext.setB ?_ (by first | omega | (simp only [size_alloc, size_setB, size_drew]; omega)) _ | refine Ext.trans ?_ (by assumption))) hT7)), rfl, rfl⟩⟩

end Go.Proofs.YgvacwGreat
