import Derived.Test.YgvacwGreatHd
namespace Go.Proofs.YgvacwGreat
set_option linter.unusedSimpArgs false
set_option linter.unusedVariables false
def ysMade (y : PSt) (l : List (List Int)) : PSt := { y with now := { y.now with made := l } }
def xsMade (x : YSt) (s : SV) : YSt := { x with now := { x.now with made := s } }
def yentA (y : PSt) (c : PF) : PSt := if ycreates c.kind = true then ysMade (ysAccts y (ysetNonce y.now.accts c.self 1)) (ywith y.now.made c.self) else y
def yentB (y : PSt) (c : PF) : PSt := if c.kind ≠ 3 ∧ c.kind ≠ 7 then ysAccts y (ymove y.now.accts c.caller c.self c.value) else y
def yenter (y : PSt) (fs : List PF) (c : PF) : PSt × List PF := ({ yentB (yentA y c) c with ret := [] }, fs ++ [{ c with saved := y.now }])
theorem PSB.made {N : Nat} {y : PSt} (h : PSB N y) (A : List Int) : PSB (N + 1) (ysMade y (ywith y.now.made A)) := { h.mono (Nat.le_succ N) with now := { h.now.mono (Nat.le_succ N) with md := Nat.le_trans (ywith_len _ _) (Nat.succ_le_succ h.now.md) } }
theorem PSB.entA {N : Nat} {y : PSt} (h : PSB N y) (hN : N < 99999999) (c : PF) : PSB (N + 2) (yentA y c) := by
  unfold yentA
  split
  · exact (h.setNonce (by omega) c.self 1).made c.self
  · exact h.mono (by omega)
theorem YB.entA {y : PSt} (h : YB y) (c : PF) : YB (yentA y c) := by
  intro A
  unfold yentA
  split
  · show sz (yacct (ysetNonce y.now.accts c.self 1) A).bal ≤ 32
    rw [yacct_setNonce]
    split
    · exact h c.self
    · exact h A
  · exact h A
theorem FApp.kt [Om] {Y : Nat → Prop} {w w' : World} {s' : SV} {xs' : List YFr} {fs' : List PF} (h : FApp Y w w' s' xs' fs') : ∀ T, T ≠ 121 → KT T w w' := by obtain ⟨_, _, _, _, _, _, h, _⟩ := h; exact h
theorem YRet.pre [O : Om] {Y : Nat → Prop} {w w1 w2 : World} {C : Nat} {y' : PSt} {fs' : List PF} (hk : KeepO Y w w1) (h : YRet Y w1 w2 C y' fs') : YRet Y w w2 C y' fs' := by
  obtain ⟨O', Y', x', xs', hg, hk2, hX⟩ := h
  exact ⟨O', Y', x', xs', ⟨⟨fun b hb => hg.le.dn b (Nat.lt_of_lt_of_le hb hk.sz)⟩, hg.up, hg.yup, fun b hb => hg.ydn b (Nat.lt_of_lt_of_le hb hk.sz), hg.newY⟩, hk.trans hk2 (fun _ _ e => e), hX⟩
theorem PWR.kt [Om] {w w' : World} {x : YWs} {p : PW} (h : PWR w x p) (hk : ∀ T, T ≠ 121 → KT T w w') : PWR w' x p := by
  obtain ⟨⟨L1, a1, a2⟩, ⟨b1, b2⟩, ⟨L3, c1, c2⟩, d1, ⟨L5, e1, e2, e3, e4⟩, ⟨L6, f1, f2⟩, ⟨g1, g2⟩, ⟨i1, i2⟩⟩ := h
  have h5 := hk 5 (by decide)
  have h111 := hk 111 (by decide)
  have h28 := hk 28 (by decide)
  exact ⟨⟨L1, a1.kt (hk _ (by decide)), a2.mono fun _ _ h => h.kt h5 h111⟩, ⟨b1.kt (hk _ (by decide)), b2⟩, ⟨L3, c1.kt (hk _ (by decide)), c2.mono fun _ _ h => h.kt h5⟩, NN.kt d1 h5, ⟨L5, e1.kt (hk _ (by decide)), e2, fun x hx => (e3 x hx).kt h5 h28, e4⟩, ⟨L6, f1.kt (hk _ (by decide)), f2.mono fun _ _ h => h.kt h5⟩, ⟨g1.kt (hk _ (by decide)), g2⟩, ⟨i1.kt (hk _ (by decide)), i2⟩⟩
theorem FrR.sav [Om] {w : World} {x : YFr} {f : PF} {s : YWs} {p : PW} (h : FrR w x f) (hs : PWR w s p) : FrR w { x with saved := s } { f with saved := p } := { h with saved := hs }

set_option maxRecDepth 10000 in
set_option maxHeartbeats 4000000 in
theorem yEnter_spec [Om] (w : World) (hO : OmB w) (Y : Nat → Prop) (C : Nat) (x : YSt) (y : PSt) (xs : List YFr) (fs : List PF) (N : Nat) (hX : YX Y w C x y xs fs) (hB : PSB N y) (hN : N ≤ 99999900) (hYB : YB y) (hfl : fs.length ≤ 900) (xc : YFr) (c : PF) (hc : FrR w xc c) (hcm : xc.mem = (none, 0, 0)) (hcm2 : c.mem = []) (hcv : sz c.value ≤ 32) (hck : c.kind ≤ 255) : Ret Hvac.prog 33 #[.pointer (some ⟨C, 0, none⟩), .agg (encYF xc).toArray] w fun u w' => u = .tuple #[] ∧ YRet Y w w' C (yenter y fs c).1 (yenter y fs c).2 := by
  have hO0 := hO
  have hSb := hX.ss.blk
  have hSS := hX.ss
  have hSo := hX.ss.om
  have hSl := hSb.lt
  have hlf := hX.frs.lf
  have hsf : xc.self.length = 20 := by rw [hc.self]; exact hc.sb.1
  have hcf : xc.caller.length = 20 := by rw [hc.caller]; exact hc.cb.1
  have hszf := encYF_sz hsf hcf
  have hkk : ∀ s1, Ce (encYF { xc with saved := s1 }).toArray (0 + 0) (.int .u8 c.kind) := fun s1 => by rw [← hc.kind]; exact ⟨rfl⟩
  have hsbl := hc.sb.1
  have hcbl := hc.cb.1
  have hNv := hc.value
  have hB5 := hB.entA (by omega) c
  have hYB5 := hYB.entA c
  have hwd := hB.now.md
  refine Ret_of_W Hvac.func33 rfl rfl ?_
  refine W_seq ?_
  refine W_region rfl ?_
  refine WO_boxG (.agg _) rfl ?_
  intro b3 v3 hg3 hE3 hH3 hl3
  try simp only [size_alloc, size_setB, size_drew] at hg3
  have hzz3 := hE3.1
  try simp only [size_alloc, size_setB, size_drew] at hzz3
  refine WO_nil ?_
  refine thn_normal ?_
  refine W_seq ?_
  refine W_region rfl ?_
  refine WO_p (PS_move_ptr rfl) ?_
  refine WO_p (PS_nilCheck rfl) ?_
  refine WO_p (PS_fieldAddr 0 Hvac.runUnderlying99 rfl Hvac.sizeOf95 rfl rfl) ?_
  refine WO_call Hvac.call92 (by rfl) (Ret.mono (yClone_spec _ (OmB.ext hO (by repeat (first | assumption | exact Ext.refl _ | refine Ext.alloc ?_ _ | refine Ext.drew ?_ | refine Ext.setB ?_ (by first | omega | (simp only [size_alloc, size_setB, size_drew]; omega)) _ | exact Ext.trans (by assumption) (by assumption) | refine Ext.trans ?_ (by assumption)))) C _ 101 (0, 0) x.now y.now N (Hb.mk (Hb.h (by repeat (first | assumption | exact Hb.newY _ _ | refine Hb.alloc ?_ | refine Hb.drew ?_ | refine Hb.ext (by assumption) ?_ | exact Hb.setSameL (by first | omega | (simp only [size_alloc, size_setB, size_drew]; omega)) | exact Hb.setSame (by assumption) | refine Hb.set (by first | omega | (simp only [size_alloc, size_setB, size_drew]; omega)) ?_ )))) (WC.st x) (PWN.ext hX.ss.rel.now (by repeat (first | assumption | exact Ext.refl _ | refine Ext.alloc ?_ _ | refine Ext.drew ?_ | refine Ext.setB ?_ (by first | omega | (simp only [size_alloc, size_setB, size_drew]; omega)) _ | exact Ext.trans (by assumption) (by assumption) | refine Ext.trans ?_ (by assumption)))) hB.now (by omega)) ?_)
  rintro _ w1 ⟨hE1, s1, rfl, hs1⟩
  have hz1 := hE1.1
  try simp only [size_alloc, size_setB, size_drew] at hz1
  have hones := one_Ws2 s1
  refine WO_p (PS_fieldAddr 52 Hvac.runUnderlying121 rfl Hvac.sizeOf95 rfl rfl) ?_
  refine WO_store Hvac.sizeOf95 rfl (v := .agg _) rfl (Hb.h (by repeat (first | assumption | exact Hb.newY _ _ | refine Hb.alloc ?_ | refine Hb.drew ?_ | refine Hb.ext (by assumption) ?_ | exact Hb.setSameL (by first | omega | (simp only [size_alloc, size_setB, size_drew]; omega)) | exact Hb.setSame (by assumption) | refine Hb.set (by first | omega | (simp only [size_alloc, size_setB, size_drew]; omega)) ?_ ))) rfl (by first | omega | (simp only [Value.cells]; omega)) hones ?_
  rw [show (Value.agg (encYF xc).toArray).cells = (encYF xc).toArray from rfl, show (Value.agg (encWs s1).toArray).cells = (encWs s1).toArray from rfl, encYF_saved hsf hcf s1]
  apply WO_gen4
  intro w2 hw2
  obtain ⟨xc1, hxc1⟩ : ∃ xc1 : YFr, xc1 = { xc with saved := s1 } := ⟨_, rfl⟩
  rw [← hxc1] at hw2
  have hE2 : Ext w w2 := by rw [hw2]; exact (by repeat (first | assumption | exact Ext.refl _ | refine Ext.alloc ?_ _ | refine Ext.drew ?_ | refine Ext.setB ?_ (by first | omega | (simp only [size_alloc, size_setB, size_drew]; omega)) _ | refine Ext.trans ?_ (by assumption)))
  have hb32 : Hb w2 b3 (.cells (encYF xc1).toArray 121 (0, 0)) := by rw [hw2]; exact Hb.mk (Hb.h (by repeat (first | assumption | exact Hb.newY _ _ | refine Hb.alloc ?_ | refine Hb.drew ?_ | refine Hb.ext (by assumption) ?_ | exact Hb.setSameL (by first | omega | (simp only [size_alloc, size_setB, size_drew]; omega)) | exact Hb.setSame (by assumption) | refine Hb.set (by first | omega | (simp only [size_alloc, size_setB, size_drew]; omega)) ?_ )))
  have hs12 : PWR w2 s1 y.now := by rw [hw2]; exact PWR.kt hs1 (fun T hT => KT.setB (Hb.mk (o := .cells (encYF xc).toArray 121 (0, 0)) (Hb.h (by repeat (first | assumption | exact Hb.newY _ _ | refine Hb.alloc ?_ | refine Hb.drew ?_ | refine Hb.ext (by assumption) ?_ | exact Hb.setSameL (by first | omega | (simp only [size_alloc, size_setB, size_drew]; omega)) | exact Hb.setSame (by assumption) | refine Hb.set (by first | omega | (simp only [size_alloc, size_setB, size_drew]; omega)) ?_ )))) hT)
  clear hw2
  have hz2 := hE2.1
  have hb3l2 := hb32.lt
  have hsf1 : xc1.self.length = 20 := by rw [hxc1]; exact hsf
  have hcf1 : xc1.caller.length = 20 := by rw [hxc1]; exact hcf
  have hszg1 := encYF_sz hsf1 hcf1
  have honef1 := one_YF xc1
  have hBX := FC.box rfl hsf1 hcf1
  have hkk1 : Ce (encYF xc1).toArray (0 + 0) (.int .u8 c.kind) := by rw [hxc1]; exact hkk s1
  have hk12 : Xt (encYF xc1).toArray (0 + 12) (0 + 12 + 20) (ic .u8 c.self) := by have h9 := hBX.self; rw [show xc1.self = c.self by rw [hxc1]; exact hc.self] at h9; exact h9
  have hk32 : Xt (encYF xc1).toArray (0 + 32) (0 + 32 + 20) (ic .u8 c.caller) := by have h9 := hBX.caller; rw [show xc1.caller = c.caller by rw [hxc1]; exact hc.caller] at h9; exact h9
  have hk5 : Ce (encYF xc1).toArray (0 + 5) (.slice xc.value.1 xc.value.2.1 xc.value.2.2) := by have h9 := hBX.value; rw [show xc1.value = xc.value by rw [hxc1]] at h9; exact h9
  have hm1 : xc1.mem = (none, 0, 0) := by rw [hxc1]; exact hcm
  refine WO_nil ?_
  refine thn_normal ?_
  refine W_seqJ (fun ρ w' => ∃ (x1 : YSt), Fr [(0, .pointer (some ⟨C, 0, none⟩)), (3, .pointer (some ⟨b3, 0, none⟩))] ρ ∧ SStep w w' C x1 (yentA y c) ∧ x1.frames = x.frames ∧ x1.now.logs = x.now.logs ∧ Hb w' b3 (.cells (encYF xc1).toArray 121 (0, 0)) ∧ PWR w' s1 y.now) ?_ ?_
  · skip
    refine W_seq ?_
    refine W_region rfl ?_
    refine WO_p (PS_fieldAddr 0 Hvac.runUnderlying121 rfl Hvac.sizeOf5 rfl rfl) ?_
    refine WO_load (.int _ _) Hvac.isAgg5 rfl (Hb.h (by repeat (first | assumption | exact Hb.newY _ _ | refine Hb.alloc ?_ | refine Hb.drew ?_ | refine Hb.ext (by assumption) ?_ | exact Hb.setSameL (by first | omega | (simp only [size_alloc, size_setB, size_drew]; omega)) | exact Hb.setSame (by assumption) | refine Hb.set (by first | omega | (simp only [size_alloc, size_setB, size_drew]; omega)) ?_ ))) (Ce.h (by first | assumption | exact ⟨rfl⟩)) ?_
    refine WO_call Hvac.call93 (by rfl) (Ret.mono (yCreates_spec c.kind _ hck) ?_)
    rintro _ w93_1 ⟨hE93_1, rfl⟩
    have hz93_1 := hE93_1.1
    try simp only [size_alloc, size_setB, size_drew] at hz93_1
    refine WO_nil ?_
    refine thn_normal ?_
    refine W_if rfl (fun hb3 => ?_) (fun hb3 => ?_)
    · have hb3p := hb3.h; try simp only [al_ete, al_dfn, Bool.not_eq_true', Bool.not_eq_false', al_ne, Bool.not_not, al_nn] at hb3p
      have hmk : ycreates c.kind = true := hb3p
      refine W_seq ?_
      refine W_drawE [false, false, false, false, false, true, false] hmix (by kernel_rfl) rfl ?_
      refine WH_p (PS_move_ptr rfl) rfl ?_
      refine WH_p (PS_nilCheck rfl) rfl ?_
      refine WH_p (PS_fieldAddr 0 Hvac.runUnderlying99 rfl Hvac.sizeOf95 rfl rfl) rfl ?_
      refine WH_p (PS_fieldAddr 12 Hvac.runUnderlying121 rfl Hvac.sizeOf25 rfl rfl) rfl ?_
      refine WH_loadA _ Hvac.isAgg25 Hvac.sizeOf25 rfl (Hb.h (by repeat (first | assumption | exact Hb.newY _ _ | refine Hb.alloc ?_ | refine Hb.drew ?_ | refine Hb.ext (by assumption) ?_ | exact Hb.setSameL (by first | omega | (simp only [size_alloc, size_setB, size_drew]; omega)) | exact Hb.setSame (by assumption) | refine Hb.set (by first | omega | (simp only [size_alloc, size_setB, size_drew]; omega)) ?_ ))) (by first | omega | assumption | rfl | decide | exact Nat.le_refl _ | (simp only [size_ic, Value.cells]; omega) | (simp [encWs]; done) | (simp; omega) | simp | exact encYA_sz (by assumption) | exact encYT_sz (by assumption) | exact encYM_sz (by assumption)) (Xt.h (by first | assumption | exact Xt.whole rfl rfl | exact Xt.whole rfl (by assumption) | exact Xt.whole rfl (by simp only [size_ic, Value.cells]; omega) | exact ⟨rfl⟩)) ?_
      refine WH_call Hvac.call19 (by rfl) (Ret.mono (nNum_spec (OmB.ext hO (by repeat (first | assumption | exact Ext.refl _ | refine Ext.alloc ?_ _ | refine Ext.drew ?_ | refine Ext.setB ?_ (by first | omega | (simp only [size_alloc, size_setB, size_drew]; omega)) _ | exact Ext.trans (by assumption) (by assumption) | refine Ext.trans ?_ (by assumption)))) ⟨by omega, by omega⟩) ?_)
      rintro _ w19_3 ⟨hE19_3, s19_3, rfl, hN19_3, hs19_3⟩
      refine ⟨fun _ => (by repeat (first | assumption | exact Ext.refl _ | refine Ext.alloc ?_ _ | refine Ext.drew ?_ | refine Ext.setB ?_ (by first | omega | (simp only [size_alloc, size_setB, size_drew]; omega)) _ | exact Ext.trans (by assumption) (by assumption) | refine Ext.trans ?_ (by assumption))), ?_⟩
      have hz19_3 := hE19_3.1
      try simp only [size_alloc, size_setB, size_drew] at hz19_3
      try simp only [Int.toNat_natCast, toNat_lit] at hN19_3 hs19_3
      try simp only [show Int.toNat 1 = 1 from rfl] at hN19_3 hs19_3
      refine WH_call Hvac.call23 (by rfl) (Ret.mono (setNonceS (OmB.ext hO (by repeat (first | assumption | exact Ext.refl _ | refine Ext.alloc ?_ _ | refine Ext.drew ?_ | refine Ext.setB ?_ (by first | omega | (simp only [size_alloc, size_setB, size_drew]; omega)) _ | exact Ext.trans (by assumption) (by assumption) | refine Ext.trans ?_ (by assumption)))) (by first | assumption | exact YSS.ext (by assumption) (by repeat (first | assumption | exact Ext.refl _ | refine Ext.alloc ?_ _ | refine Ext.drew ?_ | refine Ext.setB ?_ (by first | omega | (simp only [size_alloc, size_setB, size_drew]; omega)) _ | exact Ext.trans (by assumption) (by assumption) | refine Ext.trans ?_ (by assumption)))) hB (by omega) hc.sb (by first | exact NN.nil _ | assumption | exact NN.ext (by assumption) (by repeat (first | assumption | exact Ext.refl _ | refine Ext.alloc ?_ _ | refine Ext.drew ?_ | refine Ext.setB ?_ (by first | omega | (simp only [size_alloc, size_setB, size_drew]; omega)) _ | exact Ext.trans (by assumption) (by assumption) | refine Ext.trans ?_ (by assumption)))) (by omega)) ?_)
      rintro _ w3 ⟨rfl, s3, hT3⟩
      refine ⟨(fun h => by cases h), ?_⟩
      have hSS3 := hT3.ss
      have hKO3 := hT3.ko
      have hO3 := OmB.keep (OmB.ext hO (by repeat (first | assumption | exact Ext.refl _ | refine Ext.alloc ?_ _ | refine Ext.drew ?_ | refine Ext.setB ?_ (by first | omega | (simp only [size_alloc, size_setB, size_drew]; omega)) _ | refine Ext.trans ?_ (by assumption)))) hKO3
      have hb3_3 : Hb w3 b3 (.cells (encYF xc1).toArray 121 (0, 0)) := Hb.keepO hT3.keep (fun e => absurd e (by omega)) (Hb.mk (Hb.h (by repeat (first | assumption | exact Hb.newY _ _ | refine Hb.alloc ?_ | refine Hb.drew ?_ | refine Hb.ext (by assumption) ?_ | exact Hb.setSameL (by first | omega | (simp only [size_alloc, size_setB, size_drew]; omega)) | exact Hb.setSame (by assumption) | refine Hb.set (by first | omega | (simp only [size_alloc, size_setB, size_drew]; omega)) ?_ ))))
      have hs1_3 : PWR w3 s1 y.now := PWR.keep (PWR.ext hs12 (by repeat (first | assumption | exact Ext.refl _ | refine Ext.alloc ?_ _ | refine Ext.drew ?_ | refine Ext.setB ?_ (by first | omega | (simp only [size_alloc, size_setB, size_drew]; omega)) _ | refine Ext.trans ?_ (by assumption)))) hKO3
      replace hO := hO3
      have hSb3 := hSS3.blk
      have hSl3 := hSb3.lt
      have hb3l3 := hb3_3.lt
      have hzs3 := encYS_size (xsAccts x s3)
      have hmd3 := hSS3.rel.now.made
      have hml3 := hmd3.len
      have hmb3 : (ysAccts y (ysetNonce y.now.accts c.self 1)).now.made.length ≤ N := hB.now.md
      refine WH_nil ?_
      refine thn_normal ?_
      refine W_drawE [false, false, false, false, false, false, false, false, false, false, false, false, false] hmix (by kernel_rfl) rfl ?_
      refine WH_p (PS_move_ptr rfl) rfl ?_
      refine WH_p (PS_move_ptr rfl) rfl ?_
      refine WH_p (PS_nilCheck rfl) rfl ?_
      refine WH_p (PS_fieldAddr 0 Hvac.runUnderlying99 rfl Hvac.sizeOf95 rfl rfl) rfl ?_
      refine WH_p (PS_fieldAddr 6 Hvac.runUnderlying95 rfl Hvac.sizeOf90 rfl rfl) rfl ?_
      refine WH_load (.slice _ _ _) Hvac.isAgg90 rfl (Hb.h (by repeat (first | assumption | exact Hb.newY _ _ | refine Hb.alloc ?_ | refine Hb.drew ?_ | refine Hb.ext (by assumption) ?_ | exact Hb.setSameL (by first | omega | (simp only [size_alloc, size_setB, size_drew]; omega)) | exact Hb.setSame (by assumption) | refine Hb.set (by first | omega | (simp only [size_alloc, size_setB, size_drew]; omega)) ?_ ))) (Ce.h (by first | assumption | exact ⟨rfl⟩)) ?_
      refine WH_p (PS_fieldAddr 12 Hvac.runUnderlying121 rfl Hvac.sizeOf25 rfl rfl) rfl ?_
      refine WH_loadA _ Hvac.isAgg25 Hvac.sizeOf25 rfl (Hb.h (by repeat (first | assumption | exact Hb.newY _ _ | refine Hb.alloc ?_ | refine Hb.drew ?_ | refine Hb.ext (by assumption) ?_ | exact Hb.setSameL (by first | omega | (simp only [size_alloc, size_setB, size_drew]; omega)) | exact Hb.setSame (by assumption) | refine Hb.set (by first | omega | (simp only [size_alloc, size_setB, size_drew]; omega)) ?_ ))) (by first | omega | assumption | rfl | decide | exact Nat.le_refl _ | (simp only [size_ic, Value.cells]; omega) | (simp [encWs]; done) | (simp; omega) | simp | exact encYA_sz (by assumption) | exact encYT_sz (by assumption) | exact encYM_sz (by assumption)) (Xt.h (by first | assumption | exact Xt.whole rfl rfl | exact Xt.whole rfl (by assumption) | exact Xt.whole rfl (by simp only [size_ic, Value.cells]; omega) | exact ⟨rfl⟩)) ?_
      refine WH_call Hvac.call88 (by rfl) (Ret.mono (yWith_spec _ (OmB.ext hO (by repeat (first | assumption | exact Ext.refl _ | refine Ext.alloc ?_ _ | refine Ext.drew ?_ | refine Ext.setB ?_ (by first | omega | (simp only [size_alloc, size_setB, size_drew]; omega)) _ | exact Ext.trans (by assumption) (by assumption) | refine Ext.trans ?_ (by assumption)))) _ _ _ _ (AdR.ext hmd3 (by repeat (first | assumption | exact Ext.refl _ | refine Ext.alloc ?_ _ | refine Ext.drew ?_ | refine Ext.setB ?_ (by first | omega | (simp only [size_alloc, size_setB, size_drew]; omega)) _ | exact Ext.trans (by assumption) (by assumption) | refine Ext.trans ?_ (by assumption)))) (by show (xsAccts x s3).now.made.2.1 ≤ 100000000; omega) _ hc.sb) ?_)
      rintro _ w4 ⟨hE4, s4, rfl, hl4⟩
      refine ⟨(fun h => by cases h), ?_⟩
      have hz4 := hE4.1
      try simp only [size_alloc, size_setB, size_drew] at hz4
      refine WH_p (PS_nilCheck rfl) rfl ?_
      refine WH_p (PS_fieldAddr 0 Hvac.runUnderlying99 rfl Hvac.sizeOf95 rfl rfl) rfl ?_
      refine WH_p (PS_fieldAddr 6 Hvac.runUnderlying95 rfl Hvac.sizeOf90 rfl rfl) rfl ?_
      refine WH_store1 Hvac.sizeOf90 rfl (v := (.slice _ _ _)) rfl (Hb.h (by repeat (first | assumption | exact Hb.newY _ _ | refine Hb.alloc ?_ | refine Hb.drew ?_ | refine Hb.ext (by assumption) ?_ | exact Hb.setSameL (by first | omega | (simp only [size_alloc, size_setB, size_drew]; omega)) | exact Hb.setSame (by assumption) | refine Hb.set (by first | omega | (simp only [size_alloc, size_setB, size_drew]; omega)) ?_ ))) rfl (by first | omega | assumption | rfl | decide | exact Nat.le_refl _ | (simp only [size_ic, Value.cells]; omega) | (simp [encWs]; done) | (simp; omega) | simp | exact encYA_sz (by assumption) | exact encYT_sz (by assumption) | exact encYM_sz (by assumption)) rfl (fun h => by cases h) ?_
      refine WH_nil ?_
      refine thn_normal ?_
      rw [yentA, if_pos hmk]; exact ⟨xsMade (xsAccts x s3) s4, ⟨rfl, rfl, trivial⟩, (SStep.pre (by repeat (first | assumption | exact Ext.refl _ | refine Ext.alloc ?_ _ | refine Ext.drew ?_ | refine Ext.setB ?_ (by first | omega | (simp only [size_alloc, size_setB, size_drew]; omega)) _ | refine Ext.trans ?_ (by assumption))) hT3).trans (SStep.put2 rfl hSS3 (by repeat (first | assumption | exact Ext.refl _ | refine Ext.alloc ?_ _ | refine Ext.drew ?_ | refine Ext.setB ?_ (by first | omega | (simp only [size_alloc, size_setB, size_drew]; omega)) _ | refine Ext.trans ?_ (by assumption))) (encYS_6 (xsAccts x s3) s4) { StRel.ext hSS3.rel (by repeat (first | assumption | exact Ext.refl _ | refine Ext.alloc ?_ _ | refine Ext.drew ?_ | refine Ext.setB ?_ (by first | omega | (simp only [size_alloc, size_setB, size_drew]; omega)) _ | refine Ext.trans ?_ (by assumption))) with now := { (StRel.ext hSS3.rel (by repeat (first | assumption | exact Ext.refl _ | refine Ext.alloc ?_ _ | refine Ext.drew ?_ | refine Ext.setB ?_ (by first | omega | (simp only [size_alloc, size_setB, size_drew]; omega)) _ | refine Ext.trans ?_ (by assumption)))).now with made := AdR.ext hl4 (by repeat (first | assumption | exact Ext.refl _ | refine Ext.alloc ?_ _ | refine Ext.drew ?_ | refine Ext.setB ?_ (by first | omega | (simp only [size_alloc, size_setB, size_drew]; omega)) _ | refine Ext.trans ?_ (by assumption))) } }), rfl, rfl, Hb.mk (Hb.h (by repeat (first | assumption | exact Hb.newY _ _ | refine Hb.alloc ?_ | refine Hb.drew ?_ | refine Hb.ext (by assumption) ?_ | exact Hb.setSameL (by first | omega | (simp only [size_alloc, size_setB, size_drew]; omega)) | exact Hb.setSame (by assumption) | refine Hb.set (by first | omega | (simp only [size_alloc, size_setB, size_drew]; omega)) ?_ ))), PWR.keep (PWR.ext hs1_3 (by repeat (first | assumption | exact Ext.refl _ | refine Ext.alloc ?_ _ | refine Ext.drew ?_ | refine Ext.setB ?_ (by first | omega | (simp only [size_alloc, size_setB, size_drew]; omega)) _ | refine Ext.trans ?_ (by assumption)))) (keepSO (Ext.refl _) hSo _)⟩
    · have hb3p := hb3.h; try simp only [al_ete, al_dfn, Bool.not_eq_true', Bool.not_eq_false', al_ne, Bool.not_not, al_nn] at hb3p
      have hmk : ¬ ycreates c.kind = true := by simp [hb3p]
      refine W_skip ?_
      refine thn_normal ?_
      rw [yentA, if_neg hmk]; exact ⟨x, ⟨rfl, rfl, trivial⟩, (SStep.refl hX.ss).extR (by repeat (first | assumption | exact Ext.refl _ | refine Ext.alloc ?_ _ | refine Ext.drew ?_ | refine Ext.setB ?_ (by first | omega | (simp only [size_alloc, size_setB, size_drew]; omega)) _ | refine Ext.trans ?_ (by assumption))), rfl, rfl, Hb.mk (Hb.h (by repeat (first | assumption | exact Hb.newY _ _ | refine Hb.alloc ?_ | refine Hb.drew ?_ | refine Hb.ext (by assumption) ?_ | exact Hb.setSameL (by first | omega | (simp only [size_alloc, size_setB, size_drew]; omega)) | exact Hb.setSame (by assumption) | refine Hb.set (by first | omega | (simp only [size_alloc, size_setB, size_drew]; omega)) ?_ ))), PWR.ext hs12 (by repeat (first | assumption | exact Ext.refl _ | refine Ext.alloc ?_ _ | refine Ext.drew ?_ | refine Ext.setB ?_ (by first | omega | (simp only [size_alloc, size_setB, size_drew]; omega)) _ | refine Ext.trans ?_ (by assumption)))⟩
  · rintro ρ5 w5 ⟨x1, hFr5, hT5, hxf5, hlg5, hb35, hs15⟩
    refine W_env _ hFr5 ?_
    have hK5 := hT5.keep
    have hKO5 := hT5.ko
    have hO := hO0.keep hKO5
    have hSS5 := hT5.ss
    have hSb5 := hSS5.blk
    have hSl5 := hSb5.lt
    have hb3l5 := hb35.lt
    have hz5 := hK5.sz
    have hzs5 := encYS_size x1
    have hNv5 : NN w5 xc.value c.value := hc.value.keep hKO5
    refine W_seqJ (fun ρ w' => ∃ (x1 : YSt), Fr [(0, .pointer (some ⟨C, 0, none⟩)), (3, .pointer (some ⟨b3, 0, none⟩))] ρ ∧ SStep w w' C x1 (yentB (yentA y c) c) ∧ x1.frames = x.frames ∧ x1.now.logs = x.now.logs ∧ Hb w' b3 (.cells (encYF xc1).toArray 121 (0, 0)) ∧ PWR w' s1 y.now) ?_ ?_
    · skip
      refine W_seq ?_
      refine W_region rfl ?_
      refine WO_p (PS_fieldAddr 0 Hvac.runUnderlying121 rfl Hvac.sizeOf5 rfl rfl) ?_
      refine WO_load (.int _ _) Hvac.isAgg5 rfl (Hb.h (by repeat (first | assumption | exact Hb.newY _ _ | refine Hb.alloc ?_ | refine Hb.drew ?_ | refine Hb.ext (by assumption) ?_ | exact Hb.setSameL (by first | omega | (simp only [size_alloc, size_setB, size_drew]; omega)) | exact Hb.setSame (by assumption) | refine Hb.set (by first | omega | (simp only [size_alloc, size_setB, size_drew]; omega)) ?_ ))) (Ce.h (by first | assumption | exact ⟨rfl⟩)) ?_
      refine WO_p (PS_neq rfl rfl) ?_
      refine WO_p (PS_move_bool rfl) ?_
      refine WO_if (t := 34) rfl (fun hb8 => ?_) (fun hb8 => ?_)
      · have hb8p := hb8.h; try simp only [al_ete, al_dfn, Bool.not_eq_true', Bool.not_eq_false', al_ne, Bool.not_not, al_nn] at hb8p
        have hk3 : c.kind ≠ 3 := by omega
        refine WO_guardT rfl rfl hb8.h ?_
        refine WO_p (PS_fieldAddr 0 Hvac.runUnderlying121 rfl Hvac.sizeOf5 rfl rfl) ?_
        refine WO_guardT rfl rfl hb8.h ?_
        refine WO_load (.int _ _) Hvac.isAgg5 rfl (Hb.h (by repeat (first | assumption | exact Hb.newY _ _ | refine Hb.alloc ?_ | refine Hb.drew ?_ | refine Hb.ext (by assumption) ?_ | exact Hb.setSameL (by first | omega | (simp only [size_alloc, size_setB, size_drew]; omega)) | exact Hb.setSame (by assumption) | refine Hb.set (by first | omega | (simp only [size_alloc, size_setB, size_drew]; omega)) ?_ ))) (Ce.h (by first | assumption | exact ⟨rfl⟩)) ?_
        refine WO_guardT rfl rfl hb8.h ?_
        refine WO_p (PS_neq rfl rfl) ?_
        refine WO_p (PS_pickT rfl hb8.h rfl) ?_
        refine WO_nil ?_
        refine thn_normal ?_
        refine W_if rfl (fun hb10 => ?_) (fun hb10 => ?_)
        · have hb10p := hb10.h; try simp only [al_ete, al_dfn, Bool.not_eq_true', Bool.not_eq_false', al_ne, Bool.not_not, al_nn] at hb10p
          have hkm : c.kind ≠ 3 ∧ c.kind ≠ 7 := ⟨hk3, by omega⟩
          refine W_drawE [false, false, false, false, false, false, false, false, false, false] hmix (by kernel_rfl) rfl ?_
          refine WH_p (PS_move_ptr rfl) rfl ?_
          refine WH_p (PS_nilCheck rfl) rfl ?_
          refine WH_p (PS_fieldAddr 0 Hvac.runUnderlying99 rfl Hvac.sizeOf95 rfl rfl) rfl ?_
          refine WH_p (PS_fieldAddr 32 Hvac.runUnderlying121 rfl Hvac.sizeOf25 rfl rfl) rfl ?_
          refine WH_loadA _ Hvac.isAgg25 Hvac.sizeOf25 rfl (Hb.h (by repeat (first | assumption | exact Hb.newY _ _ | refine Hb.alloc ?_ | refine Hb.drew ?_ | refine Hb.ext (by assumption) ?_ | exact Hb.setSameL (by first | omega | (simp only [size_alloc, size_setB, size_drew]; omega)) | exact Hb.setSame (by assumption) | refine Hb.set (by first | omega | (simp only [size_alloc, size_setB, size_drew]; omega)) ?_ ))) (by first | omega | assumption | rfl | decide | exact Nat.le_refl _ | (simp only [size_ic, Value.cells]; omega) | (simp [encWs]; done) | (simp; omega) | simp | exact encYA_sz (by assumption) | exact encYT_sz (by assumption) | exact encYM_sz (by assumption)) (Xt.h (by first | assumption | exact Xt.whole rfl rfl | exact Xt.whole rfl (by assumption) | exact Xt.whole rfl (by simp only [size_ic, Value.cells]; omega) | exact ⟨rfl⟩)) ?_
          refine WH_p (PS_fieldAddr 12 Hvac.runUnderlying121 rfl Hvac.sizeOf25 rfl rfl) rfl ?_
          refine WH_loadA _ Hvac.isAgg25 Hvac.sizeOf25 rfl (Hb.h (by repeat (first | assumption | exact Hb.newY _ _ | refine Hb.alloc ?_ | refine Hb.drew ?_ | refine Hb.ext (by assumption) ?_ | exact Hb.setSameL (by first | omega | (simp only [size_alloc, size_setB, size_drew]; omega)) | exact Hb.setSame (by assumption) | refine Hb.set (by first | omega | (simp only [size_alloc, size_setB, size_drew]; omega)) ?_ ))) (by first | omega | assumption | rfl | decide | exact Nat.le_refl _ | (simp only [size_ic, Value.cells]; omega) | (simp [encWs]; done) | (simp; omega) | simp | exact encYA_sz (by assumption) | exact encYT_sz (by assumption) | exact encYM_sz (by assumption)) (Xt.h (by first | assumption | exact Xt.whole rfl rfl | exact Xt.whole rfl (by assumption) | exact Xt.whole rfl (by simp only [size_ic, Value.cells]; omega) | exact ⟨rfl⟩)) ?_
          refine WH_p (PS_fieldAddr 5 Hvac.runUnderlying121 rfl Hvac.sizeOf92 rfl rfl) rfl ?_
          refine WH_load (.slice _ _ _) Hvac.isAgg92 rfl (Hb.h (by repeat (first | assumption | exact Hb.newY _ _ | refine Hb.alloc ?_ | refine Hb.drew ?_ | refine Hb.ext (by assumption) ?_ | exact Hb.setSameL (by first | omega | (simp only [size_alloc, size_setB, size_drew]; omega)) | exact Hb.setSame (by assumption) | refine Hb.set (by first | omega | (simp only [size_alloc, size_setB, size_drew]; omega)) ?_ ))) (Ce.h (by first | assumption | exact ⟨rfl⟩)) ?_
          refine WH_call Hvac.call94 (by rfl) (Ret.mono (moveS (OmB.ext hO (by repeat (first | assumption | exact Ext.refl _ | refine Ext.alloc ?_ _ | refine Ext.drew ?_ | refine Ext.setB ?_ (by first | omega | (simp only [size_alloc, size_setB, size_drew]; omega)) _ | exact Ext.trans (by assumption) (by assumption) | refine Ext.trans ?_ (by assumption)))) (by first | assumption | exact YSS.ext (by assumption) (by repeat (first | assumption | exact Ext.refl _ | refine Ext.alloc ?_ _ | refine Ext.drew ?_ | refine Ext.setB ?_ (by first | omega | (simp only [size_alloc, size_setB, size_drew]; omega)) _ | exact Ext.trans (by assumption) (by assumption) | refine Ext.trans ?_ (by assumption)))) hB5 (by omega) hc.cb hc.sb (by first | exact NN.nil _ | assumption | exact NN.ext (by assumption) (by repeat (first | assumption | exact Ext.refl _ | refine Ext.alloc ?_ _ | refine Ext.drew ?_ | refine Ext.setB ?_ (by first | omega | (simp only [size_alloc, size_setB, size_drew]; omega)) _ | exact Ext.trans (by assumption) (by assumption) | refine Ext.trans ?_ (by assumption)))) hcv (fun _ => move_sum hYB5 hcv)) ?_)
          rintro _ w6 ⟨rfl, s6, hT6⟩
          refine ⟨(fun h => by cases h), ?_⟩
          refine WH_nil ?_
          refine thn_normal ?_
          rw [yentB, if_pos hkm]; exact ⟨xsAccts x1 s6, ⟨rfl, rfl, trivial⟩, hT5.trans (SStep.pre (by repeat (first | assumption | exact Ext.refl _ | refine Ext.alloc ?_ _ | refine Ext.drew ?_ | refine Ext.setB ?_ (by first | omega | (simp only [size_alloc, size_setB, size_drew]; omega)) _ | refine Ext.trans ?_ (by assumption))) hT6), hxf5, hlg5, Hb.keepO hT6.keep (fun e => absurd e (by omega)) (Hb.mk (Hb.h (by repeat (first | assumption | exact Hb.newY _ _ | refine Hb.alloc ?_ | refine Hb.drew ?_ | refine Hb.ext (by assumption) ?_ | exact Hb.setSameL (by first | omega | (simp only [size_alloc, size_setB, size_drew]; omega)) | exact Hb.setSame (by assumption) | refine Hb.set (by first | omega | (simp only [size_alloc, size_setB, size_drew]; omega)) ?_ )))), PWR.keep (PWR.ext hs15 (by repeat (first | assumption | exact Ext.refl _ | refine Ext.alloc ?_ _ | refine Ext.drew ?_ | refine Ext.setB ?_ (by first | omega | (simp only [size_alloc, size_setB, size_drew]; omega)) _ | refine Ext.trans ?_ (by assumption)))) hT6.ko⟩
        · have hb10p := hb10.h; try simp only [al_ete, al_dfn, Bool.not_eq_true', Bool.not_eq_false', al_ne, Bool.not_not, al_nn] at hb10p
          have hkm : ¬ (c.kind ≠ 3 ∧ c.kind ≠ 7) := fun h9 => by omega
          refine W_skip ?_
          refine thn_normal ?_
          rw [yentB, if_neg hkm]; exact ⟨x1, ⟨rfl, rfl, trivial⟩, hT5.extR (by repeat (first | assumption | exact Ext.refl _ | refine Ext.alloc ?_ _ | refine Ext.drew ?_ | refine Ext.setB ?_ (by first | omega | (simp only [size_alloc, size_setB, size_drew]; omega)) _ | refine Ext.trans ?_ (by assumption))), hxf5, hlg5, Hb.mk (Hb.h (by repeat (first | assumption | exact Hb.newY _ _ | refine Hb.alloc ?_ | refine Hb.drew ?_ | refine Hb.ext (by assumption) ?_ | exact Hb.setSameL (by first | omega | (simp only [size_alloc, size_setB, size_drew]; omega)) | exact Hb.setSame (by assumption) | refine Hb.set (by first | omega | (simp only [size_alloc, size_setB, size_drew]; omega)) ?_ ))), PWR.ext hs15 (by repeat (first | assumption | exact Ext.refl _ | refine Ext.alloc ?_ _ | refine Ext.drew ?_ | refine Ext.setB ?_ (by first | omega | (simp only [size_alloc, size_setB, size_drew]; omega)) _ | refine Ext.trans ?_ (by assumption)))⟩
      · have hb8p := hb8.h; try simp only [al_ete, al_dfn, Bool.not_eq_true', Bool.not_eq_false', al_ne, Bool.not_not, al_nn] at hb8p
        have hkm : ¬ (c.kind ≠ 3 ∧ c.kind ≠ 7) := fun h9 => by omega
        refine WO_guardF rfl rfl hb8.h ?_
        refine WO_guardF rfl rfl hb8.h ?_
        refine WO_guardF rfl rfl hb8.h ?_
        refine WO_p (PS_pickF rfl hb8.h rfl) ?_
        refine WO_nil ?_
        refine thn_normal ?_
        refine W_condF rfl rfl ?_
        refine W_skip ?_
        refine thn_normal ?_
        rw [yentB, if_neg hkm]; exact ⟨x1, ⟨rfl, rfl, trivial⟩, hT5.extR (by repeat (first | assumption | exact Ext.refl _ | refine Ext.alloc ?_ _ | refine Ext.drew ?_ | refine Ext.setB ?_ (by first | omega | (simp only [size_alloc, size_setB, size_drew]; omega)) _ | refine Ext.trans ?_ (by assumption))), hxf5, hlg5, Hb.mk (Hb.h (by repeat (first | assumption | exact Hb.newY _ _ | refine Hb.alloc ?_ | refine Hb.drew ?_ | refine Hb.ext (by assumption) ?_ | exact Hb.setSameL (by first | omega | (simp only [size_alloc, size_setB, size_drew]; omega)) | exact Hb.setSame (by assumption) | refine Hb.set (by first | omega | (simp only [size_alloc, size_setB, size_drew]; omega)) ?_ ))), PWR.ext hs15 (by repeat (first | assumption | exact Ext.refl _ | refine Ext.alloc ?_ _ | refine Ext.drew ?_ | refine Ext.setB ?_ (by first | omega | (simp only [size_alloc, size_setB, size_drew]; omega)) _ | refine Ext.trans ?_ (by assumption)))⟩
    · rintro ρ7 w7 ⟨x1, hFr7, hT7, hxf7, hlg7, hb37, hs17⟩
      refine W_env _ hFr7 ?_
      have hK7 := hT7.keep
      have hKO7 := hT7.ko
      have hO := hO0.keep hKO7
      have hSS7 := hT7.ss
      have hSb7 := hSS7.blk
      have hSl7 := hSb7.lt
      have hb3l7 := hb37.lt
      have hz7 := hK7.sz
      have hzs7 := encYS_size x1
      have hNv7 : NN w7 xc.value c.value := hc.value.keep hKO7
      refine W_seq ?_
      refine W_region rfl ?_
      refine WO_p (PS_move_ptr rfl) ?_
      refine WO_p (PS_nilCheck rfl) ?_
      refine WO_p (PS_fieldAddr 10 Hvac.runUnderlying99 rfl Hvac.sizeOf32 rfl rfl) ?_
      refine WO_store1 Hvac.sizeOf32 rfl (v := (.slice _ _ _)) rfl (Hb.h (by repeat (first | assumption | exact Hb.newY _ _ | refine Hb.alloc ?_ | refine Hb.drew ?_ | refine Hb.ext (by assumption) ?_ | exact Hb.setSameL (by first | omega | (simp only [size_alloc, size_setB, size_drew]; omega)) | exact Hb.setSame (by assumption) | refine Hb.set (by first | omega | (simp only [size_alloc, size_setB, size_drew]; omega)) ?_ ))) rfl (by first | omega | assumption | rfl | decide | exact Nat.le_refl _ | (simp only [size_ic, Value.cells]; omega) | (simp [encWs]; done) | (simp; omega) | simp | exact encYA_sz (by assumption) | exact encYT_sz (by assumption) | exact encYM_sz (by assumption)) rfl ?_
      refine WO_nil ?_
      refine thn_normal ?_
      refine W_gen fun w8 hw8 => ?_
      have hT8 : SStep w7 w8 C ({ x1 with ret := (none, 0, 0) }) ({ yentB (yentA y c) c with ret := [] }) := SStep.put2 hw8 hSS7 (by repeat (first | assumption | exact Ext.refl _ | refine Ext.alloc ?_ _ | refine Ext.drew ?_ | refine Ext.setB ?_ (by first | omega | (simp only [size_alloc, size_setB, size_drew]; omega)) _ | refine Ext.trans ?_ (by assumption))) (encYS_10 x1 (none, 0, 0)) ({ StRel.ext hSS7.rel (by repeat (first | assumption | exact Ext.refl _ | refine Ext.alloc ?_ _ | refine Ext.drew ?_ | refine Ext.setB ?_ (by first | omega | (simp only [size_alloc, size_setB, size_drew]; omega)) _ | refine Ext.trans ?_ (by assumption))) with ret := PB.nil _ })
      have hK8 := hT8.keep
      have hKO8 := hT8.ko
      replace hO := hO.keep hKO8
      have hSS8 := hT8.ss
      have hSb8 := hSS8.blk
      have hSl8 := hSb8.lt
      have hz8 := hK8.sz
      have hzs8 := encYS_size ({ x1 with ret := (none, 0, 0) })
      replace hs17 := hs17.keep hKO8
      clear hw8
      have hT8a := hT7.trans hT8
      have hfrs8 : FRS Y w8 x1.frames xs fs := by rw [hxf7]; exact hX.frs.cs hX.ss.blk hX.ss.om hT8a.keep
      have hKO8a := hT8a.ko
      have hR8 : FR1 Y w8 xc1 { c with saved := y.now } := ⟨by rw [hxc1]; exact (hc.keep hKO8a (KT.kf hX.ss.blk hT8a.keep (by decide))).sav hs17, by show MW w8 xc1.mem c.mem; rw [hm1, hcm2]; exact MW.nil _, fun b hb => by obtain ⟨o, h1, h2⟩ := hb; rw [hm1] at h2; exact absurd h2 (Nat.lt_irrefl 0)⟩
      have hm8 : xc1.mem.2.1 = 0 := by rw [hm1]
      have hfl8 : x1.frames.2.1 ≤ 1000 := by rw [hxf7]; omega
      have hX8 : YX Y w8 C ({ x1 with ret := (none, 0, 0) }) ({ yentB (yentA y c) c with ret := [] }) xs fs := ⟨hO, hX.sub, hX.yc, hSS8, hfrs8, (by show ∀ b, sblk x1.now.logs b → Om.p b → Y b; rw [hlg7]; exact hX.yl)⟩
      have hb38 : Hb w8 b3 (.cells (encYF xc1).toArray 121 (0, 0)) := hb37.keepO hT8.keep (fun e => absurd e (by omega))
      have hb38l := hb38.lt
      refine W_drawE [false, false, false, false, false, false, true, false, false, false, false] hmix (by kernel_rfl) rfl ?_
      refine WH_p (PS_move_ptr rfl) rfl ?_
      refine WH_p (PS_move_ptr rfl) rfl ?_
      refine WH_p (PS_nilCheck rfl) rfl ?_
      refine WH_p (PS_fieldAddr 9 Hvac.runUnderlying99 rfl Hvac.sizeOf97 rfl rfl) rfl ?_
      refine WH_load (.slice _ _ _) Hvac.isAgg97 rfl (Hb.h (by repeat (first | assumption | exact Hb.newY _ _ | refine Hb.alloc ?_ | refine Hb.drew ?_ | refine Hb.ext (by assumption) ?_ | exact Hb.setSameL (by first | omega | (simp only [size_alloc, size_setB, size_drew]; omega)) | exact Hb.setSame (by assumption) | refine Hb.set (by first | omega | (simp only [size_alloc, size_setB, size_drew]; omega)) ?_ ))) (Ce.h (by first | assumption | exact ⟨rfl⟩)) ?_
      refine WH_loadA _ Hvac.isAgg121 Hvac.sizeOf121 rfl (Hb.h (by repeat (first | assumption | exact Hb.newY _ _ | refine Hb.alloc ?_ | refine Hb.drew ?_ | refine Hb.ext (by assumption) ?_ | exact Hb.setSameL (by first | omega | (simp only [size_alloc, size_setB, size_drew]; omega)) | exact Hb.setSame (by assumption) | refine Hb.set (by first | omega | (simp only [size_alloc, size_setB, size_drew]; omega)) ?_ ))) (by first | omega | assumption | rfl | decide | exact Nat.le_refl _ | (simp only [size_ic, Value.cells]; omega) | (simp [encWs]; done) | (simp; omega) | simp | exact encYA_sz (by assumption) | exact encYT_sz (by assumption) | exact encYM_sz (by assumption)) (Xt.h (by first | assumption | exact Xt.whole rfl rfl | exact Xt.whole rfl (by assumption) | exact Xt.whole rfl (by simp only [size_ic, Value.cells]; omega) | exact ⟨rfl⟩)) ?_
      refine WH_buildSlice1 Hvac.runUnderlying97 Hvac.sizeOf121 Hvac.zeroValue121 rfl (by first | omega | assumption | rfl | decide | exact Nat.le_refl _ | (simp only [size_ic, Value.cells]; omega) | (simp [encWs]; done) | (simp; omega) | simp | exact encYA_sz (by assumption) | exact encYT_sz (by assumption) | exact encYM_sz (by assumption)) (by decide) (by decide) (fun _ => (by repeat (first | assumption | exact Ext.refl _ | refine Ext.alloc ?_ _ | refine Ext.drew ?_ | refine Ext.setB ?_ (by first | omega | (simp only [size_alloc, size_setB, size_drew]; omega)) _ | exact Ext.trans (by assumption) (by assumption) | refine Ext.trans ?_ (by assumption)))) ?_
      refine WH_appF xc1 { c with saved := y.now } (FRS.ext hfrs8 (by repeat (first | assumption | exact Ext.refl _ | refine Ext.alloc ?_ _ | refine Ext.drew ?_ | refine Ext.setB ?_ (by first | omega | (simp only [size_alloc, size_setB, size_drew]; omega)) _ | exact Ext.trans (by assumption) (by assumption) | refine Ext.trans ?_ (by assumption)))) (OmB.ext hO (by repeat (first | assumption | exact Ext.refl _ | refine Ext.alloc ?_ _ | refine Ext.drew ?_ | refine Ext.setB ?_ (by first | omega | (simp only [size_alloc, size_setB, size_drew]; omega)) _ | exact Ext.trans (by assumption) (by assumption) | refine Ext.trans ?_ (by assumption)))) hX.sub (FR1.ext hR8 (by repeat (first | assumption | exact Ext.refl _ | refine Ext.alloc ?_ _ | refine Ext.drew ?_ | refine Ext.setB ?_ (by first | omega | (simp only [size_alloc, size_setB, size_drew]; omega)) _ | exact Ext.trans (by assumption) (by assumption) | refine Ext.trans ?_ (by assumption)))) hm8 (Hb.mk (Hb.h (by repeat (first | assumption | exact Hb.newY _ _ | refine Hb.alloc ?_ | refine Hb.drew ?_ | refine Hb.ext (by assumption) ?_ | exact Hb.setSameL (by first | omega | (simp only [size_alloc, size_setB, size_drew]; omega)) | exact Hb.setSame (by assumption) | refine Hb.set (by first | omega | (simp only [size_alloc, size_setB, size_drew]; omega)) ?_ )))) (by omega) rfl rfl ?_
      intro s9 w9 hA9
      have hC9 : Hb w9 C (.cells (encYS ({ x1 with ret := (none, 0, 0) })).toArray 101 (0, 0)) := FApp.kt hA9 101 (by decide) _ _ _ (Hb.mk (Hb.h (by repeat (first | assumption | exact Hb.newY _ _ | refine Hb.alloc ?_ | refine Hb.drew ?_ | refine Hb.ext (by assumption) ?_ | exact Hb.setSameL (by first | omega | (simp only [size_alloc, size_setB, size_drew]; omega)) | exact Hb.setSame (by assumption) | refine Hb.set (by first | omega | (simp only [size_alloc, size_setB, size_drew]; omega)) ?_ ))))
      have hCl9 := hC9.lt
      refine ⟨(fun h => by cases h), ?_⟩
      refine WH_p (PS_nilCheck rfl) rfl ?_
      refine WH_p (PS_fieldAddr 9 Hvac.runUnderlying99 rfl Hvac.sizeOf97 rfl rfl) rfl ?_
      refine WH_store1 Hvac.sizeOf97 rfl (v := (.slice _ _ _)) rfl (Hb.h (by repeat (first | assumption | exact Hb.newY _ _ | refine Hb.alloc ?_ | refine Hb.drew ?_ | refine Hb.ext (by assumption) ?_ | exact Hb.setSameL (by first | omega | (simp only [size_alloc, size_setB, size_drew]; omega)) | exact Hb.setSame (by assumption) | refine Hb.set (by first | omega | (simp only [size_alloc, size_setB, size_drew]; omega)) ?_ ))) rfl (by first | omega | assumption | rfl | decide | exact Nat.le_refl _ | (simp only [size_ic, Value.cells]; omega) | (simp [encWs]; done) | (simp; omega) | simp | exact encYA_sz (by assumption) | exact encYT_sz (by assumption) | exact encYM_sz (by assumption)) rfl (fun h => by cases h) ?_
      refine WH_nil ?_
      first | refine bodyQ_ret0 Hvac.results33 ?_ | refine bodyQ_end0 Hvac.results33 ?_
      exact ⟨rfl, YRet.pre ((KeepO.mono hT8a.keep (fun b e => e ▸ hX.yc)).extR (by repeat (first | assumption | exact Ext.refl _ | refine Ext.alloc ?_ _ | refine Ext.drew ?_ | refine Ext.setB ?_ (by first | omega | (simp only [size_alloc, size_setB, size_drew]; omega)) _ | refine Ext.trans ?_ (by assumption)))) (YX.push rfl (hX8.ext (by repeat (first | assumption | exact Ext.refl _ | refine Ext.alloc ?_ _ | refine Ext.drew ?_ | refine Ext.setB ?_ (by first | omega | (simp only [size_alloc, size_setB, size_drew]; omega)) _ | refine Ext.trans ?_ (by assumption)))) hA9 (encYS_9 _ s9))⟩

end Go.Proofs.YgvacwGreat
