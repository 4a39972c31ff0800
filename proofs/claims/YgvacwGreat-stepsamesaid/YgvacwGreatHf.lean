import Derived.Test.YgvacwGreatHe
namespace Go.Proofs.YgvacwGreat
set_option linter.unusedSimpArgs false
set_option linter.unusedVariables false
def ysGone (y : PSt) (l : List (List Int)) : PSt := { y with now := { y.now with gone := l } }
def xsGone (x : YSt) (s : SV) : YSt := { x with now := { x.now with gone := s } }
theorem PSB.gone {N : Nat} {y : PSt} (h : PSB N y) (A : List Int) : PSB (N + 1) (ysGone y (ywith y.now.gone A)) := { h.mono (Nat.le_succ N) with now := { h.now.mono (Nat.le_succ N) with gn := Nat.le_trans (ywith_len _ _) (Nat.succ_le_succ h.now.gn) } }
def yfault (y : PSt) (p : PW) : PSt := { y with now := p, ret := [], phase := 2, status := 13, left := 0 }
def ydes1 (y : PSt) (f : PF) : PSt := ysWarmA y (ywith y.now.warmA (yaddr (yarg f 0)))
def ydes2 (y : PSt) (f : PF) : PSt := if yaddr (yarg f 0) ≠ f.self then ysAccts (ydes1 y f) (ymove y.now.accts f.self (yaddr (yarg f 0)) (yacct y.now.accts f.self).bal) else ydes1 y f
def ydes3 (y : PSt) (f : PF) : PSt := if f.self ∈ y.now.made then ysGone (ydes2 y f) (ywith y.now.gone f.self) else ydes2 y f
theorem ydes2_made (y : PSt) (f : PF) : (ydes2 y f).now.made = y.now.made ∧ (ydes2 y f).now.gone = y.now.gone := by unfold ydes2; split <;> exact ⟨rfl, rfl⟩
def ydestroys (y : PSt) (rest : List PF) (f : PF) : PSt × List PF := yleave (ydes3 y f) rest f 0 []
theorem PSB.des2 {N : Nat} {y : PSt} (h : PSB N y) (hN : N < 99999990) (f : PF) : PSB (N + 3) (ydes2 y f) := by
  unfold ydes2
  split
  · exact (h.warmA (yaddr (yarg f 0))).move (y := ydes1 y f) (by omega) _ _ _
  · exact (h.warmA (yaddr (yarg f 0))).mono (by omega)
theorem PSB.des3 {N : Nat} {y : PSt} (h : PSB N y) (hN : N < 99999990) (f : PF) : PSB (N + 4) (ydes3 y f) := by
  unfold ydes3
  split
  · have h9 := (h.des2 hN f).gone f.self
    rw [(ydes2_made y f).2] at h9
    exact h9
  · exact (h.des2 hN f).mono (by omega)
theorem FrM.cs [Om] {w w' : World} {C F fo : Nat} {r c : Array Value} {x : YFr} {f : PF} (h : FrM w F fo r x f) (hC : Hb w C (.cells c 101 (0, 0))) (ho : Om.p C) (hk : KeepO (fun b => b = C) w w') : FrM w' F fo r x f :=
  ⟨KT.kf hC hk (by decide) _ _ _ h.blk, h.fc, h.rel.keep (hk.om fun b _ e => e ▸ ho) (KT.kf hC hk (by decide)), h.om⟩
theorem FrM.s0 [Om] {w : World} {F fo : Nat} {r : Array Value} {x : YFr} {f : PF} (h : FrM w F fo r x f) : FrS w F fo x f := ⟨⟨r, 121, (0, 0), h.blk, h.fc⟩, h.rel⟩
/-- the top frame -/
theorem YX.top [Om] {Y : Nat → Prop} {w : World} {C F : Nat} {x : YSt} {y : PSt} {xs : List YFr} {rest : List PF} {f : PF} (h : YX Y w C x y xs (rest ++ [f])) (hF : x.frames.1 = some ⟨F, 0, none⟩) : ∃ r xf, xs[rest.length]? = some xf ∧ FrM w F (rest.length * 60) r xf f ∧ MW w xf.mem f.mem ∧ Y F ∧ x.frames.2.1 = rest.length + 1 := by
  have hlf := h.frs.lf
  rw [List.length_append, List.length_singleton] at hlf
  obtain ⟨F0, r, xf, f0, hFp, hYF, hxf, hf0, hFM, hrs, hF1⟩ := h.frs.at_ (i := rest.length) (by omega)
  rw [List.getElem?_append_right (Nat.le_refl _), Nat.sub_self, List.getElem?_cons_zero] at hf0
  have hf0' := Option.some.inj hf0
  subst hf0'
  rw [hF] at hFp
  injection hFp with hFp
  injection hFp with hFp _
  subst hFp
  exact ⟨r, xf, hxf, hFM, hF1.mw, hYF, hlf.symm⟩

set_option maxRecDepth 10000 in
set_option maxHeartbeats 4000000 in
theorem yFault_spec [Om] (w : World) (hO : OmB w) (Y : Nat → Prop) (C : Nat) (x : YSt) (y : PSt) (xs : List YFr) (fs : List PF) (g : PF) (hX : YX Y w C x y xs fs) (hg : fs[0]? = some g) : Ret Hvac.prog 128 #[.pointer (some ⟨C, 0, none⟩)] w fun u w' => u = .tuple #[] ∧ YRet Y w w' C (yfault y g.saved) [] := by
  have hO0 := hO
  have hSb := hX.ss.blk
  have hSS := hX.ss
  have hSo := hX.ss.om
  have hSl := hSb.lt
  have hzs := encYS_size x
  have hlf := hX.frs.lf
  have h0l := lt_of_getElem? hg
  obtain ⟨F, r, xf, f0, hFp, hYF, hxf, hf0, hFM, hrs, hF1⟩ := hX.frs.at_ (i := 0) (by omega)
  rw [hg] at hf0
  have hf0' := Option.some.inj hf0
  subst hf0'
  have hFC := hFM.fc
  have hFb := hFM.blk
  have hFl := hFb.lt
  have hFsz := hFC.size
  have hk52 := hFC.saved
  obtain ⟨sv0, hsv0⟩ : ∃ sv0, sv0 = xf.saved := ⟨_, rfl⟩
  rw [← hsv0] at hk52
  have hones := one_Ws2 sv0
  have hk9 : Ce (encYS x).toArray (0 + 9) (.slice (some ⟨F, 0, none⟩) x.frames.2.1 x.frames.2.2) := ⟨by
    have h9 : (encYS x).toArray[0 + 9]? = some (.slice x.frames.1 x.frames.2.1 x.frames.2.2) := rfl
    rw [h9, hFp]⟩
  have hsr : PWR w sv0 g.saved := by rw [hsv0]; exact hF1.rel.saved
  have hylS : ∀ b, sblk sv0.logs b → Om.p b → Y b := fun b hb hp => by
    obtain ⟨L9, h1, _⟩ := hsr.logs
    obtain ⟨o9, h2, h3⟩ := hb
    obtain ⟨b9, r9, fz9, h4, h5, _⟩ := h1.row h3
    rw [h2] at h4
    injection h4 with h4
    injection h4 with h4 _
    subst h4
    exact absurd hp h5
  have hk52b : Xt r (0 + (0:Int).toNat * 60 + 52) (0 + (0:Int).toNat * 60 + 52 + 8) (encWs sv0).toArray := hk52
  refine Ret_of_W Hvac.func128 rfl rfl ?_
  refine W_seq ?_
  refine W_region rfl ?_
  refine WO_p (PS_move_ptr rfl) ?_
  refine WO_p (PS_move_ptr rfl) ?_
  refine WO_p (PS_nilCheck rfl) ?_
  refine WO_p (PS_fieldAddr 9 Hvac.runUnderlying99 rfl Hvac.sizeOf97 rfl rfl) ?_
  refine WO_load (.slice _ _ _) Hvac.isAgg97 rfl (Hb.h (by repeat (first | assumption | exact Hb.newY _ _ | refine Hb.alloc ?_ | refine Hb.drew ?_ | refine Hb.ext (by assumption) ?_ | exact Hb.setSameL (by first | omega | (simp only [size_alloc, size_setB, size_drew]; omega)) | exact Hb.setSame (by assumption) | refine Hb.set (by first | omega | (simp only [size_alloc, size_setB, size_drew]; omega)) ?_ ))) (Ce.h (by first | assumption | exact ⟨rfl⟩)) ?_
  refine WO_p (PS_indexS Hvac.runUnderlying97 Hvac.sizeOf121 rfl rfl (by omega) (by omega)) ?_
  refine WO_p (PS_fieldAddr 52 Hvac.runUnderlying121 rfl Hvac.sizeOf95 rfl rfl) ?_
  refine WO_loadA _ Hvac.isAgg95 Hvac.sizeOf95 rfl (Hb.h (by repeat (first | assumption | exact Hb.newY _ _ | refine Hb.alloc ?_ | refine Hb.drew ?_ | refine Hb.ext (by assumption) ?_ | exact Hb.setSameL (by first | omega | (simp only [size_alloc, size_setB, size_drew]; omega)) | exact Hb.setSame (by assumption) | refine Hb.set (by first | omega | (simp only [size_alloc, size_setB, size_drew]; omega)) ?_ ))) (by first | omega | assumption | rfl | decide | exact Nat.le_refl _ | (simp only [size_ic, Value.cells]; omega) | (simp [encWs]; done) | (simp; omega) | simp | exact encYA_sz (by assumption) | exact encYT_sz (by assumption) | exact encYM_sz (by assumption)) (Xt.h (by first | assumption | exact Xt.whole rfl rfl | exact Xt.whole rfl (by assumption) | exact Xt.whole rfl (by simp only [size_ic, Value.cells]; omega) | exact ⟨rfl⟩)) ?_
  refine WO_p (PS_nilCheck rfl) ?_
  refine WO_p (PS_fieldAddr 0 Hvac.runUnderlying99 rfl Hvac.sizeOf95 rfl rfl) ?_
  refine WO_store Hvac.sizeOf95 rfl (v := .agg _) rfl (Hb.h (by repeat (first | assumption | exact Hb.newY _ _ | refine Hb.alloc ?_ | refine Hb.drew ?_ | refine Hb.ext (by assumption) ?_ | exact Hb.setSameL (by first | omega | (simp only [size_alloc, size_setB, size_drew]; omega)) | exact Hb.setSame (by assumption) | refine Hb.set (by first | omega | (simp only [size_alloc, size_setB, size_drew]; omega)) ?_ ))) rfl (by omega) hones ?_
  rw [show (Value.agg (encWs sv0).toArray).cells = (encWs sv0).toArray from rfl]
  refine WO_nil ?_
  refine thn_normal ?_
  refine W_seq ?_
  refine W_gen fun w0 hw0 => ?_
  have hT0 : SStep w w0 C ({ x with now := sv0 }) ({ y with now := g.saved }) := SStep.put2 hw0 hSS (by repeat (first | assumption | exact Ext.refl _ | refine Ext.alloc ?_ _ | refine Ext.drew ?_ | refine Ext.setB ?_ (by first | omega | (simp only [size_alloc, size_setB, size_drew]; omega)) _ | refine Ext.trans ?_ (by assumption))) (encYS_now x sv0) ({ StRel.ext hSS.rel (by repeat (first | assumption | exact Ext.refl _ | refine Ext.alloc ?_ _ | refine Ext.drew ?_ | refine Ext.setB ?_ (by first | omega | (simp only [size_alloc, size_setB, size_drew]; omega)) _ | refine Ext.trans ?_ (by assumption))) with now := (PWR.ext hsr (by repeat (first | assumption | exact Ext.refl _ | refine Ext.alloc ?_ _ | refine Ext.drew ?_ | refine Ext.setB ?_ (by first | omega | (simp only [size_alloc, size_setB, size_drew]; omega)) _ | refine Ext.trans ?_ (by assumption)))).n })
  have hK0 := hT0.keep
  have hKO0 := hT0.ko
  replace hO := hO.keep hKO0
  have hSS0 := hT0.ss
  have hSb0 := hSS0.blk
  have hSl0 := hSb0.lt
  have hz0 := hK0.sz
  have hzs0 := encYS_size ({ x with now := sv0 })
  clear hw0
  refine W_region rfl ?_
  refine WO_p (PS_move_ptr rfl) ?_
  refine WO_p (PS_nilCheck rfl) ?_
  refine WO_p (PS_fieldAddr 9 Hvac.runUnderlying99 rfl Hvac.sizeOf97 rfl rfl) ?_
  refine WO_store1 Hvac.sizeOf97 rfl (v := (.slice _ _ _)) rfl (Hb.h (by repeat (first | assumption | exact Hb.newY _ _ | refine Hb.alloc ?_ | refine Hb.drew ?_ | refine Hb.ext (by assumption) ?_ | exact Hb.setSameL (by first | omega | (simp only [size_alloc, size_setB, size_drew]; omega)) | exact Hb.setSame (by assumption) | refine Hb.set (by first | omega | (simp only [size_alloc, size_setB, size_drew]; omega)) ?_ ))) rfl (by first | omega | assumption | rfl | decide | exact Nat.le_refl _ | (simp only [size_ic, Value.cells]; omega) | (simp [encWs]; done) | (simp; omega) | simp | exact encYA_sz (by assumption) | exact encYT_sz (by assumption) | exact encYM_sz (by assumption)) rfl ?_
  refine WO_nil ?_
  refine thn_normal ?_
  refine W_seq ?_
  refine W_gen fun w1 hw1 => ?_
  have hT1 : SStep w0 w1 C ({ x with now := sv0, frames := (none, 0, 0) }) ({ y with now := g.saved }) := SStep.put2 hw1 hSS0 (by repeat (first | assumption | exact Ext.refl _ | refine Ext.alloc ?_ _ | refine Ext.drew ?_ | refine Ext.setB ?_ (by first | omega | (simp only [size_alloc, size_setB, size_drew]; omega)) _ | refine Ext.trans ?_ (by assumption))) (encYS_9 _ (none, 0, 0)) ({ StRel.ext hSS0.rel (by repeat (first | assumption | exact Ext.refl _ | refine Ext.alloc ?_ _ | refine Ext.drew ?_ | refine Ext.setB ?_ (by first | omega | (simp only [size_alloc, size_setB, size_drew]; omega)) _ | refine Ext.trans ?_ (by assumption))) with now := (StRel.ext hSS0.rel (by repeat (first | assumption | exact Ext.refl _ | refine Ext.alloc ?_ _ | refine Ext.drew ?_ | refine Ext.setB ?_ (by first | omega | (simp only [size_alloc, size_setB, size_drew]; omega)) _ | refine Ext.trans ?_ (by assumption)))).now })
  have hK1 := hT1.keep
  have hKO1 := hT1.ko
  replace hO := hO.keep hKO1
  have hSS1 := hT1.ss
  have hSb1 := hSS1.blk
  have hSl1 := hSb1.lt
  have hz1 := hK1.sz
  have hzs1 := encYS_size ({ x with now := sv0, frames := (none, 0, 0) })
  clear hw1
  refine W_region rfl ?_
  refine WO_p (PS_move_ptr rfl) ?_
  refine WO_p (PS_nilCheck rfl) ?_
  refine WO_p (PS_fieldAddr 10 Hvac.runUnderlying99 rfl Hvac.sizeOf32 rfl rfl) ?_
  refine WO_store1 Hvac.sizeOf32 rfl (v := (.slice _ _ _)) rfl (Hb.h (by repeat (first | assumption | exact Hb.newY _ _ | refine Hb.alloc ?_ | refine Hb.drew ?_ | refine Hb.ext (by assumption) ?_ | exact Hb.setSameL (by first | omega | (simp only [size_alloc, size_setB, size_drew]; omega)) | exact Hb.setSame (by assumption) | refine Hb.set (by first | omega | (simp only [size_alloc, size_setB, size_drew]; omega)) ?_ ))) rfl (by first | omega | assumption | rfl | decide | exact Nat.le_refl _ | (simp only [size_ic, Value.cells]; omega) | (simp [encWs]; done) | (simp; omega) | simp | exact encYA_sz (by assumption) | exact encYT_sz (by assumption) | exact encYM_sz (by assumption)) rfl ?_
  refine WO_nil ?_
  refine thn_normal ?_
  refine W_seq ?_
  refine W_gen fun w2 hw2 => ?_
  have hT2 : SStep w1 w2 C ({ x with now := sv0, frames := (none, 0, 0), ret := (none, 0, 0) }) ({ y with now := g.saved, ret := [] }) := SStep.put2 hw2 hSS1 (by repeat (first | assumption | exact Ext.refl _ | refine Ext.alloc ?_ _ | refine Ext.drew ?_ | refine Ext.setB ?_ (by first | omega | (simp only [size_alloc, size_setB, size_drew]; omega)) _ | refine Ext.trans ?_ (by assumption))) (encYS_10 _ (none, 0, 0)) ({ StRel.ext hSS1.rel (by repeat (first | assumption | exact Ext.refl _ | refine Ext.alloc ?_ _ | refine Ext.drew ?_ | refine Ext.setB ?_ (by first | omega | (simp only [size_alloc, size_setB, size_drew]; omega)) _ | refine Ext.trans ?_ (by assumption))) with ret := PB.nil _ })
  have hK2 := hT2.keep
  have hKO2 := hT2.ko
  replace hO := hO.keep hKO2
  have hSS2 := hT2.ss
  have hSb2 := hSS2.blk
  have hSl2 := hSb2.lt
  have hz2 := hK2.sz
  have hzs2 := encYS_size ({ x with now := sv0, frames := (none, 0, 0), ret := (none, 0, 0) })
  clear hw2
  refine W_region rfl ?_
  refine WO_p (PS_move_ptr rfl) ?_
  refine WO_p (PS_nilCheck rfl) ?_
  refine WO_p (PS_fieldAddr 11 Hvac.runUnderlying99 rfl Hvac.sizeOf5 rfl rfl) ?_
  refine WO_store1 Hvac.sizeOf5 rfl (v := (.int _ _)) rfl (Hb.h (by repeat (first | assumption | exact Hb.newY _ _ | refine Hb.alloc ?_ | refine Hb.drew ?_ | refine Hb.ext (by assumption) ?_ | exact Hb.setSameL (by first | omega | (simp only [size_alloc, size_setB, size_drew]; omega)) | exact Hb.setSame (by assumption) | refine Hb.set (by first | omega | (simp only [size_alloc, size_setB, size_drew]; omega)) ?_ ))) rfl (by first | omega | assumption | rfl | decide | exact Nat.le_refl _ | (simp only [size_ic, Value.cells]; omega) | (simp [encWs]; done) | (simp; omega) | simp | exact encYA_sz (by assumption) | exact encYT_sz (by assumption) | exact encYM_sz (by assumption)) rfl ?_
  refine WO_nil ?_
  refine thn_normal ?_
  refine W_seq ?_
  refine W_gen fun w3 hw3 => ?_
  have hT3 : SStep w2 w3 C ({ x with now := sv0, frames := (none, 0, 0), ret := (none, 0, 0), phase := 2 }) ({ y with now := g.saved, ret := [], phase := 2 }) := SStep.put2 hw3 hSS2 (by repeat (first | assumption | exact Ext.refl _ | refine Ext.alloc ?_ _ | refine Ext.drew ?_ | refine Ext.setB ?_ (by first | omega | (simp only [size_alloc, size_setB, size_drew]; omega)) _ | refine Ext.trans ?_ (by assumption))) (encYS_11 _ 2) ({ StRel.ext hSS2.rel (by repeat (first | assumption | exact Ext.refl _ | refine Ext.alloc ?_ _ | refine Ext.drew ?_ | refine Ext.setB ?_ (by first | omega | (simp only [size_alloc, size_setB, size_drew]; omega)) _ | refine Ext.trans ?_ (by assumption))) with phase := rfl })
  have hK3 := hT3.keep
  have hKO3 := hT3.ko
  replace hO := hO.keep hKO3
  have hSS3 := hT3.ss
  have hSb3 := hSS3.blk
  have hSl3 := hSb3.lt
  have hz3 := hK3.sz
  have hzs3 := encYS_size ({ x with now := sv0, frames := (none, 0, 0), ret := (none, 0, 0), phase := 2 })
  clear hw3
  refine W_region rfl ?_
  refine WO_p (PS_move_ptr rfl) ?_
  refine WO_p (PS_nilCheck rfl) ?_
  refine WO_p (PS_fieldAddr 12 Hvac.runUnderlying99 rfl Hvac.sizeOf5 rfl rfl) ?_
  refine WO_store1 Hvac.sizeOf5 rfl (v := (.int _ _)) rfl (Hb.h (by repeat (first | assumption | exact Hb.newY _ _ | refine Hb.alloc ?_ | refine Hb.drew ?_ | refine Hb.ext (by assumption) ?_ | exact Hb.setSameL (by first | omega | (simp only [size_alloc, size_setB, size_drew]; omega)) | exact Hb.setSame (by assumption) | refine Hb.set (by first | omega | (simp only [size_alloc, size_setB, size_drew]; omega)) ?_ ))) rfl (by first | omega | assumption | rfl | decide | exact Nat.le_refl _ | (simp only [size_ic, Value.cells]; omega) | (simp [encWs]; done) | (simp; omega) | simp | exact encYA_sz (by assumption) | exact encYT_sz (by assumption) | exact encYM_sz (by assumption)) rfl ?_
  refine WO_nil ?_
  refine thn_normal ?_
  refine W_gen fun w4 hw4 => ?_
  have hT4 : SStep w3 w4 C ({ x with now := sv0, frames := (none, 0, 0), ret := (none, 0, 0), phase := 2, status := 13 }) ({ y with now := g.saved, ret := [], phase := 2, status := 13 }) := SStep.put2 hw4 hSS3 (by repeat (first | assumption | exact Ext.refl _ | refine Ext.alloc ?_ _ | refine Ext.drew ?_ | refine Ext.setB ?_ (by first | omega | (simp only [size_alloc, size_setB, size_drew]; omega)) _ | refine Ext.trans ?_ (by assumption))) (encYS_12 _ 13) ({ StRel.ext hSS3.rel (by repeat (first | assumption | exact Ext.refl _ | refine Ext.alloc ?_ _ | refine Ext.drew ?_ | refine Ext.setB ?_ (by first | omega | (simp only [size_alloc, size_setB, size_drew]; omega)) _ | refine Ext.trans ?_ (by assumption))) with status := rfl })
  have hK4 := hT4.keep
  have hKO4 := hT4.ko
  replace hO := hO.keep hKO4
  have hSS4 := hT4.ss
  have hSb4 := hSS4.blk
  have hSl4 := hSb4.lt
  have hz4 := hK4.sz
  have hzs4 := encYS_size ({ x with now := sv0, frames := (none, 0, 0), ret := (none, 0, 0), phase := 2, status := 13 })
  clear hw4
  refine W_region rfl ?_
  refine WO_p (PS_move_ptr rfl) ?_
  refine WO_p (PS_nilCheck rfl) ?_
  refine WO_p (PS_fieldAddr 16 Hvac.runUnderlying99 rfl Hvac.sizeOf92 rfl rfl) ?_
  refine WO_store1 Hvac.sizeOf92 rfl (v := (.slice _ _ _)) rfl (Hb.h (by repeat (first | assumption | exact Hb.newY _ _ | refine Hb.alloc ?_ | refine Hb.drew ?_ | refine Hb.ext (by assumption) ?_ | exact Hb.setSameL (by first | omega | (simp only [size_alloc, size_setB, size_drew]; omega)) | exact Hb.setSame (by assumption) | refine Hb.set (by first | omega | (simp only [size_alloc, size_setB, size_drew]; omega)) ?_ ))) rfl (by first | omega | assumption | rfl | decide | exact Nat.le_refl _ | (simp only [size_ic, Value.cells]; omega) | (simp [encWs]; done) | (simp; omega) | simp | exact encYA_sz (by assumption) | exact encYT_sz (by assumption) | exact encYM_sz (by assumption)) rfl ?_
  refine WO_nil ?_
  first | refine bodyQ_ret0 Hvac.results128 ?_ | refine bodyQ_end0 Hvac.results128 ?_
  have hall := (((hT0.trans hT1).trans hT2).trans hT3).trans hT4
  refine (fun (hfin : SStep w _ C ({ x with now := sv0, frames := (none, 0, 0), ret := (none, 0, 0), phase := 2, status := 13, left := (none, 0, 0) }) ({ y with now := g.saved, ret := [], phase := 2, status := 13, left := 0 })) => ⟨rfl, _, Y, _, [], YG.refl w _ Y, KeepO.mono hfin.keep (fun b e => e ▸ hX.yc), ⟨hO0.keep hfin.keep, hX.sub, hX.yc, hfin.ss, FRS.nil Y _ _ rfl rfl, hylS⟩⟩) (hall.trans (SStep.put2 rfl hSS4 (by repeat (first | assumption | exact Ext.refl _ | refine Ext.alloc ?_ _ | refine Ext.drew ?_ | refine Ext.setB ?_ (by first | omega | (simp only [size_alloc, size_setB, size_drew]; omega)) _ | refine Ext.trans ?_ (by assumption))) (encYS_16 ({ x with now := sv0, frames := (none, 0, 0), ret := (none, 0, 0), phase := 2, status := 13 }) (none, 0, 0)) { StRel.ext hSS4.rel (by repeat (first | assumption | exact Ext.refl _ | refine Ext.alloc ?_ _ | refine Ext.drew ?_ | refine Ext.setB ?_ (by first | omega | (simp only [size_alloc, size_setB, size_drew]; omega)) _ | refine Ext.trans ?_ (by assumption))) with left := NN.nil _ }))

set_option maxRecDepth 10000 in
set_option maxHeartbeats 4000000 in
theorem yDestroys_spec [Om] (w : World) (hO : OmB w) (Y : Nat → Prop) (C : Nat) (x : YSt) (y : PSt) (xs : List YFr) (rest : List PF) (f : PF) (N : Nat) (hX : YX Y w C x y xs (rest ++ [f])) (hB : PSB N y) (hN : N ≤ 99999800) (hYB : YB y) (hP : PFB f) (hPr : ∀ g ∈ rest, PFB g ∧ sz g.gas ≤ 30) (hgf : sz f.gas ≤ 30) (hrl : rest.length ≤ 800) (F : Nat) (hFp : x.frames.1 = some ⟨F, 0, none⟩) : Ret Hvac.prog 48 #[.pointer (some ⟨C, 0, none⟩), .pointer (some ⟨F, rest.length * 60, none⟩)] w fun u w' => u = .tuple #[] ∧ YRet Y w w' C (ydestroys y rest f).1 (ydestroys y rest f).2 := by
  have hO0 := hO
  have hSb := hX.ss.blk
  have hSS := hX.ss
  have hSo := hX.ss.om
  have hSl := hSb.lt
  obtain ⟨r, xf, hxf, hFM, hMW, hYF, hlf⟩ := hX.top hFp
  have hFR := hFM.rel
  have hFC := hFM.fc
  have hFb := hFM.blk
  have hFo := hFM.om
  have hFl := hFb.lt
  have hFsz := hFC.size
  have hFS := hFM.s0
  have hk12 := hFC.self
  rw [hFR.self] at hk12
  have hsbl := hFR.sb.1
  have hzs := encYS_size x
  have hfcap := hX.frs.cap
  have hAl := (yaddr_by (yarg f 0)).1
  have hmvz : sz (yacct y.now.accts f.self).bal ≤ 32 := hYB f.self
  refine Ret_of_W Hvac.func48 rfl rfl ?_
  refine W_seq ?_
  refine W_region rfl ?_
  refine WO_p (PS_move_ptr rfl) ?_
  refine WO_call Hvac.call47 (by rfl) (Ret.mono (yArg_spec _ (OmB.ext hO (by repeat (first | assumption | exact Ext.refl _ | refine Ext.alloc ?_ _ | refine Ext.drew ?_ | refine Ext.setB ?_ (by first | omega | (simp only [size_alloc, size_setB, size_drew]; omega)) _ | exact Ext.trans (by assumption) (by assumption) | refine Ext.trans ?_ (by assumption)))) _ _ _ _ (by first | assumption | exact FrS.ext (by assumption) (by repeat (first | assumption | exact Ext.refl _ | refine Ext.alloc ?_ _ | refine Ext.drew ?_ | refine Ext.setB ?_ (by first | omega | (simp only [size_alloc, size_setB, size_drew]; omega)) _ | exact Ext.trans (by assumption) (by assumption) | refine Ext.trans ?_ (by assumption)))) hP _ (by decide)) ?_)
  rintro _ w47_0 ⟨hE47_0, s47_0, rfl, hN47_0, hs47_0⟩
  have hz47_0 := hE47_0.1
  try simp only [size_alloc, size_setB, size_drew] at hz47_0
  refine WO_call Hvac.call121 (by rfl) (Ret.mono (yAddrOf_spec _ (OmB.ext hO (by repeat (first | assumption | exact Ext.refl _ | refine Ext.alloc ?_ _ | refine Ext.drew ?_ | refine Ext.setB ?_ (by first | omega | (simp only [size_alloc, size_setB, size_drew]; omega)) _ | exact Ext.trans (by assumption) (by assumption) | refine Ext.trans ?_ (by assumption)))) _ _ _ _ (by first | exact NN.nil _ | assumption | exact NN.ext (by assumption) (by repeat (first | assumption | exact Ext.refl _ | refine Ext.alloc ?_ _ | refine Ext.drew ?_ | refine Ext.setB ?_ (by first | omega | (simp only [size_alloc, size_setB, size_drew]; omega)) _ | exact Ext.trans (by assumption) (by assumption) | refine Ext.trans ?_ (by assumption)))) (by first | assumption | omega | (rw [sz_zero]; omega))) ?_)
  rintro _ w121_1 ⟨hE121_1, rfl⟩
  have hz121_1 := hE121_1.1
  try simp only [size_alloc, size_setB, size_drew] at hz121_1
  refine WO_allocG Hvac.zeroValue25 ?_
  intro b4 v4 hg4 hE4 hH4 hl4
  try simp only [size_alloc, size_setB, size_drew] at hg4
  have hzz4 := hE4.1
  try simp only [size_alloc, size_setB, size_drew] at hzz4
  replace hH4 : Hb v4 b4 (.cells (ic .u8 (List.replicate 20 0)) 25 (0, 0)) := hH4
  first | refine WO_storeW Hvac.sizeOf25 rfl (v := .agg _) rfl (Hb.h (by repeat (first | assumption | exact Hb.newY _ _ | refine Hb.alloc ?_ | refine Hb.drew ?_ | refine Hb.ext (by assumption) ?_ | exact Hb.setSameL (by first | omega | (simp only [size_alloc, size_setB, size_drew]; omega)) | exact Hb.setSame (by assumption) | refine Hb.set (by first | omega | (simp only [size_alloc, size_setB, size_drew]; omega)) ?_ ))) rfl (by first | omega | assumption | rfl | decide | exact Nat.le_refl _ | (simp only [size_ic, Value.cells]; omega) | (simp [encWs]; done) | (simp; omega) | simp | exact encYA_sz (by assumption) | exact encYT_sz (by assumption) | exact encYM_sz (by assumption)) (by first | omega | assumption | rfl | decide | exact Nat.le_refl _ | (simp only [size_ic, Value.cells]; omega) | (simp [encWs]; done) | (simp; omega) | simp | exact encYA_sz (by assumption) | exact encYT_sz (by assumption) | exact encYM_sz (by assumption)) (by first | exact oneCell_ic | assumption | exact one_Ws2 _ | exact one_YA2 _ | exact one_YSl2 _ | exact one_YM2 _ | exact one_YT2 _ | exact one_L2 _) ?_ | refine WO_store Hvac.sizeOf25 rfl (v := .agg _) rfl (Hb.h (by repeat (first | assumption | exact Hb.newY _ _ | refine Hb.alloc ?_ | refine Hb.drew ?_ | refine Hb.ext (by assumption) ?_ | exact Hb.setSameL (by first | omega | (simp only [size_alloc, size_setB, size_drew]; omega)) | exact Hb.setSame (by assumption) | refine Hb.set (by first | omega | (simp only [size_alloc, size_setB, size_drew]; omega)) ?_ ))) (by first | omega | assumption | rfl | decide | exact Nat.le_refl _ | (simp only [size_ic, Value.cells]; omega) | (simp [encWs]; done) | (simp; omega) | simp | exact encYA_sz (by assumption) | exact encYT_sz (by assumption) | exact encYM_sz (by assumption)) (by first | omega | assumption | rfl | decide | exact Nat.le_refl _ | (simp only [size_ic, Value.cells]; omega) | (simp [encWs]; done) | (simp; omega) | simp | exact encYA_sz (by assumption) | exact encYT_sz (by assumption) | exact encYM_sz (by assumption)) (by first | exact oneCell_ic | assumption | exact one_Ws2 _ | exact one_YA2 _ | exact one_YSl2 _ | exact one_YM2 _ | exact one_YT2 _ | exact one_L2 _) ?_
  refine WO_nil ?_
  refine thn_normal ?_
  refine W_seq ?_
  refine W_drawE [false, false, false, false, false] hmix (by kernel_rfl) rfl ?_
  refine WH_p (PS_move_ptr rfl) rfl ?_
  refine WH_p (PS_nilCheck rfl) rfl ?_
  refine WH_p (PS_fieldAddr 0 Hvac.runUnderlying99 rfl Hvac.sizeOf95 rfl rfl) rfl ?_
  refine WH_loadA _ Hvac.isAgg25 Hvac.sizeOf25 rfl (Hb.h (by repeat (first | assumption | exact Hb.newY _ _ | refine Hb.alloc ?_ | refine Hb.drew ?_ | refine Hb.ext (by assumption) ?_ | exact Hb.setSameL (by first | omega | (simp only [size_alloc, size_setB, size_drew]; omega)) | exact Hb.setSame (by assumption) | refine Hb.set (by first | omega | (simp only [size_alloc, size_setB, size_drew]; omega)) ?_ ))) (by first | omega | assumption | rfl | decide | exact Nat.le_refl _ | (simp only [size_ic, Value.cells]; omega) | (simp [encWs]; done) | (simp; omega) | simp | exact encYA_sz (by assumption) | exact encYT_sz (by assumption) | exact encYM_sz (by assumption)) (Xt.h (by first | assumption | exact Xt.whole rfl rfl | exact Xt.whole rfl (by assumption) | exact Xt.whole rfl (by simp only [size_ic, Value.cells]; omega) | exact ⟨rfl⟩)) ?_
  refine WH_call Hvac.call27 (by rfl) (Ret.mono (warmS_ (OmB.ext hO (by repeat (first | assumption | exact Ext.refl _ | refine Ext.alloc ?_ _ | refine Ext.drew ?_ | refine Ext.setB ?_ (by first | omega | (simp only [size_alloc, size_setB, size_drew]; omega)) _ | exact Ext.trans (by assumption) (by assumption) | refine Ext.trans ?_ (by assumption)))) (by first | assumption | exact YSS.ext (by assumption) (by repeat (first | assumption | exact Ext.refl _ | refine Ext.alloc ?_ _ | refine Ext.drew ?_ | refine Ext.setB ?_ (by first | omega | (simp only [size_alloc, size_setB, size_drew]; omega)) _ | exact Ext.trans (by assumption) (by assumption) | refine Ext.trans ?_ (by assumption)))) hB (by omega) (by first | exact hFR.sb | exact yaddr_by _)) ?_)
  rintro _ w1 ⟨rfl, s1, hT1⟩
  refine ⟨(fun h => by cases h), ?_⟩
  have hTa1 : SStep w w1 C (xsWarmA x s1) (ydes1 y f) := SStep.pre (by repeat (first | assumption | exact Ext.refl _ | refine Ext.alloc ?_ _ | refine Ext.drew ?_ | refine Ext.setB ?_ (by first | omega | (simp only [size_alloc, size_setB, size_drew]; omega)) _ | refine Ext.trans ?_ (by assumption))) hT1
  have hX1 := hX.sstep hTa1 rfl rfl
  have hM1 := hFM.cs hX.ss.blk hX.ss.om hTa1.keep
  have hS1 := hM1.s0
  have hSS1 := hX1.ss
  have hSb1 := hSS1.blk
  have hSl1 := hSb1.lt
  have hFb1 := hM1.blk
  have hFl1 := hFb1.lt
  replace hO := hX1.omb
  have hz1 := hTa1.keep.sz
  have hzs1 := encYS_size (xsWarmA x s1)
  have hb4_1 : Hb w1 b4 (.cells (ic .u8 (yaddr (yarg f 0))) 25 (0, 0)) := Hb.keepO hT1.keep (fun e => absurd e (by omega)) (Hb.mk (Hb.h (by repeat (first | assumption | exact Hb.newY _ _ | refine Hb.alloc ?_ | refine Hb.drew ?_ | refine Hb.ext (by assumption) ?_ | exact Hb.setSameL (by first | omega | (simp only [size_alloc, size_setB, size_drew]; omega)) | exact Hb.setSame (by assumption) | refine Hb.set (by first | omega | (simp only [size_alloc, size_setB, size_drew]; omega)) ?_ ))))
  have hb4l1 := hb4_1.lt
  have hB1 := hB.warmA (yaddr (yarg f 0))
  refine WH_nil ?_
  refine thn_normal ?_
  refine W_seqJ (fun ρ w' => ∃ (x2 : YSt), Fr [(0, .pointer (some ⟨C, 0, none⟩)), (1, .pointer (some ⟨F, rest.length * 60, none⟩))] ρ ∧ YX Y w' C x2 (ydes2 y f) xs (rest ++ [f]) ∧ FrM w' F (rest.length * 60) r xf f ∧ x2.frames = x.frames ∧ KeepO Y w w') ?_ ?_
  · skip
    refine W_seq ?_
    refine W_drawE [false, false, false, false, false, false] hmix (by kernel_rfl) rfl ?_
    refine WH_loadA _ Hvac.isAgg25 Hvac.sizeOf25 rfl (Hb.h (by repeat (first | assumption | exact Hb.newY _ _ | refine Hb.alloc ?_ | refine Hb.drew ?_ | refine Hb.ext (by assumption) ?_ | exact Hb.setSameL (by first | omega | (simp only [size_alloc, size_setB, size_drew]; omega)) | exact Hb.setSame (by assumption) | refine Hb.set (by first | omega | (simp only [size_alloc, size_setB, size_drew]; omega)) ?_ ))) (by first | omega | assumption | rfl | decide | exact Nat.le_refl _ | (simp only [size_ic, Value.cells]; omega) | (simp [encWs]; done) | (simp; omega) | simp | exact encYA_sz (by assumption) | exact encYT_sz (by assumption) | exact encYM_sz (by assumption)) (Xt.h (by first | assumption | exact Xt.whole rfl rfl | exact Xt.whole rfl (by assumption) | exact Xt.whole rfl (by simp only [size_ic, Value.cells]; omega) | exact ⟨rfl⟩)) ?_
    refine WH_p (PS_move_ptr rfl) rfl ?_
    refine WH_p (PS_nilCheck rfl) rfl ?_
    refine WH_p (PS_fieldAddr 12 Hvac.runUnderlying121 rfl Hvac.sizeOf25 rfl rfl) rfl ?_
    refine WH_loadA _ Hvac.isAgg25 Hvac.sizeOf25 rfl (Hb.h (by repeat (first | assumption | exact Hb.newY _ _ | refine Hb.alloc ?_ | refine Hb.drew ?_ | refine Hb.ext (by assumption) ?_ | exact Hb.setSameL (by first | omega | (simp only [size_alloc, size_setB, size_drew]; omega)) | exact Hb.setSame (by assumption) | refine Hb.set (by first | omega | (simp only [size_alloc, size_setB, size_drew]; omega)) ?_ ))) (by first | omega | assumption | rfl | decide | exact Nat.le_refl _ | (simp only [size_ic, Value.cells]; omega) | (simp [encWs]; done) | (simp; omega) | simp | exact encYA_sz (by assumption) | exact encYT_sz (by assumption) | exact encYM_sz (by assumption)) (Xt.h (by first | assumption | exact Xt.whole rfl rfl | exact Xt.whole rfl (by assumption) | exact Xt.whole rfl (by simp only [size_ic, Value.cells]; omega) | exact ⟨rfl⟩)) ?_
    refine WH_p (PS_neqA Hvac.underlying25 Hvac.underlying5 Hvac.sizeOf5 Hvac.eqGuardType25 rfl rfl (by first | omega | assumption | rfl | decide | exact Nat.le_refl _ | (simp only [size_ic, Value.cells]; omega) | (simp [encWs]; done) | (simp; omega) | simp | exact encYA_sz (by assumption) | exact encYT_sz (by assumption) | exact encYM_sz (by assumption)) (by first | omega | assumption | rfl | decide | exact Nat.le_refl _ | (simp only [size_ic, Value.cells]; omega) | (simp [encWs]; done) | (simp; omega) | simp | exact encYA_sz (by assumption) | exact encYT_sz (by assumption) | exact encYM_sz (by assumption))) rfl ?_
    refine WH_nil ?_
    refine thn_normal ?_
    refine W_if rfl (fun hb5 => ?_) (fun hb5 => ?_)
    · have hb5p := hb5.h; try simp only [al_ete, al_dfn, Bool.not_eq_true', Bool.not_eq_false', al_ne, Bool.not_not, al_nn] at hb5p
      have hne : yaddr (yarg f 0) ≠ f.self := hb5p
      refine W_drawE [false, false, false, false, false, false, false, false, false, false, false, false, false, false, false, true, false, false] hmix (by kernel_rfl) rfl ?_
      refine WH_p (PS_move_ptr rfl) rfl ?_
      refine WH_p (PS_nilCheck rfl) rfl ?_
      refine WH_p (PS_fieldAddr 0 Hvac.runUnderlying99 rfl Hvac.sizeOf95 rfl rfl) rfl ?_
      refine WH_p (PS_move_ptr rfl) rfl ?_
      refine WH_p (PS_nilCheck rfl) rfl ?_
      refine WH_p (PS_fieldAddr 12 Hvac.runUnderlying121 rfl Hvac.sizeOf25 rfl rfl) rfl ?_
      refine WH_loadA _ Hvac.isAgg25 Hvac.sizeOf25 rfl (Hb.h (by repeat (first | assumption | exact Hb.newY _ _ | refine Hb.alloc ?_ | refine Hb.drew ?_ | refine Hb.ext (by assumption) ?_ | exact Hb.setSameL (by first | omega | (simp only [size_alloc, size_setB, size_drew]; omega)) | exact Hb.setSame (by assumption) | refine Hb.set (by first | omega | (simp only [size_alloc, size_setB, size_drew]; omega)) ?_ ))) (by first | omega | assumption | rfl | decide | exact Nat.le_refl _ | (simp only [size_ic, Value.cells]; omega) | (simp [encWs]; done) | (simp; omega) | simp | exact encYA_sz (by assumption) | exact encYT_sz (by assumption) | exact encYM_sz (by assumption)) (Xt.h (by first | assumption | exact Xt.whole rfl rfl | exact Xt.whole rfl (by assumption) | exact Xt.whole rfl (by simp only [size_ic, Value.cells]; omega) | exact ⟨rfl⟩)) ?_
      refine WH_loadA _ Hvac.isAgg25 Hvac.sizeOf25 rfl (Hb.h (by repeat (first | assumption | exact Hb.newY _ _ | refine Hb.alloc ?_ | refine Hb.drew ?_ | refine Hb.ext (by assumption) ?_ | exact Hb.setSameL (by first | omega | (simp only [size_alloc, size_setB, size_drew]; omega)) | exact Hb.setSame (by assumption) | refine Hb.set (by first | omega | (simp only [size_alloc, size_setB, size_drew]; omega)) ?_ ))) (by first | omega | assumption | rfl | decide | exact Nat.le_refl _ | (simp only [size_ic, Value.cells]; omega) | (simp [encWs]; done) | (simp; omega) | simp | exact encYA_sz (by assumption) | exact encYT_sz (by assumption) | exact encYM_sz (by assumption)) (Xt.h (by first | assumption | exact Xt.whole rfl rfl | exact Xt.whole rfl (by assumption) | exact Xt.whole rfl (by simp only [size_ic, Value.cells]; omega) | exact ⟨rfl⟩)) ?_
      refine WH_p (PS_move_ptr rfl) rfl ?_
      refine WH_p (PS_nilCheck rfl) rfl ?_
      refine WH_p (PS_fieldAddr 0 Hvac.runUnderlying99 rfl Hvac.sizeOf95 rfl rfl) rfl ?_
      refine WH_p (PS_move_ptr rfl) rfl ?_
      refine WH_p (PS_nilCheck rfl) rfl ?_
      refine WH_p (PS_fieldAddr 12 Hvac.runUnderlying121 rfl Hvac.sizeOf25 rfl rfl) rfl ?_
      refine WH_loadA _ Hvac.isAgg25 Hvac.sizeOf25 rfl (Hb.h (by repeat (first | assumption | exact Hb.newY _ _ | refine Hb.alloc ?_ | refine Hb.drew ?_ | refine Hb.ext (by assumption) ?_ | exact Hb.setSameL (by first | omega | (simp only [size_alloc, size_setB, size_drew]; omega)) | exact Hb.setSame (by assumption) | refine Hb.set (by first | omega | (simp only [size_alloc, size_setB, size_drew]; omega)) ?_ ))) (by first | omega | assumption | rfl | decide | exact Nat.le_refl _ | (simp only [size_ic, Value.cells]; omega) | (simp [encWs]; done) | (simp; omega) | simp | exact encYA_sz (by assumption) | exact encYT_sz (by assumption) | exact encYM_sz (by assumption)) (Xt.h (by first | assumption | exact Xt.whole rfl rfl | exact Xt.whole rfl (by assumption) | exact Xt.whole rfl (by simp only [size_ic, Value.cells]; omega) | exact ⟨rfl⟩)) ?_
      refine WH_call Hvac.call17 (by rfl) (Ret.mono (acctS (OmB.ext hO (by repeat (first | assumption | exact Ext.refl _ | refine Ext.alloc ?_ _ | refine Ext.drew ?_ | refine Ext.setB ?_ (by first | omega | (simp only [size_alloc, size_setB, size_drew]; omega)) _ | exact Ext.trans (by assumption) (by assumption) | refine Ext.trans ?_ (by assumption)))) (by first | assumption | exact YSS.ext (by assumption) (by repeat (first | assumption | exact Ext.refl _ | refine Ext.alloc ?_ _ | refine Ext.drew ?_ | refine Ext.setB ?_ (by first | omega | (simp only [size_alloc, size_setB, size_drew]; omega)) _ | exact Ext.trans (by assumption) (by assumption) | refine Ext.trans ?_ (by assumption)))) hB1 (by omega) hFR.sb) ?_)
      rintro _ w7 ⟨hE7, x7, rfl, hxa7, hxr7⟩
      refine ⟨fun _ => (by repeat (first | assumption | exact Ext.refl _ | refine Ext.alloc ?_ _ | refine Ext.drew ?_ | refine Ext.setB ?_ (by first | omega | (simp only [size_alloc, size_setB, size_drew]; omega)) _ | exact Ext.trans (by assumption) (by assumption) | refine Ext.trans ?_ (by assumption))), ?_⟩
      have hz7 := hE7.1
      try simp only [size_alloc, size_setB, size_drew] at hz7
      have hxl7 : x7.addr.length = 20 := by rw [hxa7]; exact hFR.sb.1
      have hsz7 : (encYA x7).toArray.size = 24 := by simpa using encYA_len hxl7
      have hc27 := encYA_2 hxl7
      have hnb7 : NN w7 x7.bal (yacct y.now.accts f.self).bal := hxr7.bal
      refine WH_p (PS_field (.slice _ _ _) 21 Hvac.runUnderlying104 rfl Hvac.isAgg92 rfl rfl (Ce.h (by first | assumption | exact ⟨rfl⟩))) rfl ?_
      refine WH_call Hvac.call94 (by rfl) (Ret.mono (moveS (OmB.ext hO (by repeat (first | assumption | exact Ext.refl _ | refine Ext.alloc ?_ _ | refine Ext.drew ?_ | refine Ext.setB ?_ (by first | omega | (simp only [size_alloc, size_setB, size_drew]; omega)) _ | exact Ext.trans (by assumption) (by assumption) | refine Ext.trans ?_ (by assumption)))) (by first | assumption | exact YSS.ext (by assumption) (by repeat (first | assumption | exact Ext.refl _ | refine Ext.alloc ?_ _ | refine Ext.drew ?_ | refine Ext.setB ?_ (by first | omega | (simp only [size_alloc, size_setB, size_drew]; omega)) _ | exact Ext.trans (by assumption) (by assumption) | refine Ext.trans ?_ (by assumption)))) hB1 (by omega) hFR.sb (yaddr_by _) (by first | exact NN.nil _ | assumption | exact NN.ext (by assumption) (by repeat (first | assumption | exact Ext.refl _ | refine Ext.alloc ?_ _ | refine Ext.drew ?_ | refine Ext.setB ?_ (by first | omega | (simp only [size_alloc, size_setB, size_drew]; omega)) _ | exact Ext.trans (by assumption) (by assumption) | refine Ext.trans ?_ (by assumption)))) hmvz (fun _ => move_sum hYB hmvz)) ?_)
      rintro _ w3 ⟨rfl, s3, hT3⟩
      refine ⟨(fun h => by cases h), ?_⟩
      refine WH_nil ?_
      refine thn_normal ?_
      rw [ydes2, if_pos hne]; exact ⟨xsAccts (xsWarmA x s1) s3, ⟨rfl, rfl, trivial⟩, hX1.sstep (SStep.pre (by repeat (first | assumption | exact Ext.refl _ | refine Ext.alloc ?_ _ | refine Ext.drew ?_ | refine Ext.setB ?_ (by first | omega | (simp only [size_alloc, size_setB, size_drew]; omega)) _ | refine Ext.trans ?_ (by assumption))) hT3) rfl rfl, hM1.cs hX1.ss.blk hX1.ss.om (SStep.pre (by repeat (first | assumption | exact Ext.refl _ | refine Ext.alloc ?_ _ | refine Ext.drew ?_ | refine Ext.setB ?_ (by first | omega | (simp only [size_alloc, size_setB, size_drew]; omega)) _ | refine Ext.trans ?_ (by assumption))) hT3).keep, rfl, (KeepO.mono hTa1.keep (fun b e => e ▸ hX.yc)).trans (KeepO.mono (SStep.pre (by repeat (first | assumption | exact Ext.refl _ | refine Ext.alloc ?_ _ | refine Ext.drew ?_ | refine Ext.setB ?_ (by first | omega | (simp only [size_alloc, size_setB, size_drew]; omega)) _ | refine Ext.trans ?_ (by assumption))) hT3).keep (fun b e => e ▸ hX.yc)) (fun _ _ e => e)⟩
    · have hb5p := hb5.h; try simp only [al_ete, al_dfn, Bool.not_eq_true', Bool.not_eq_false', al_ne, Bool.not_not, al_nn] at hb5p
      have hne : ¬ yaddr (yarg f 0) ≠ f.self := by simpa using hb5p
      refine W_skip ?_
      refine thn_normal ?_
      rw [ydes2, if_neg hne]; exact ⟨xsWarmA x s1, ⟨rfl, rfl, trivial⟩, hX1.ext (by repeat (first | assumption | exact Ext.refl _ | refine Ext.alloc ?_ _ | refine Ext.drew ?_ | refine Ext.setB ?_ (by first | omega | (simp only [size_alloc, size_setB, size_drew]; omega)) _ | refine Ext.trans ?_ (by assumption))), hM1.ext (by repeat (first | assumption | exact Ext.refl _ | refine Ext.alloc ?_ _ | refine Ext.drew ?_ | refine Ext.setB ?_ (by first | omega | (simp only [size_alloc, size_setB, size_drew]; omega)) _ | refine Ext.trans ?_ (by assumption))), rfl, (KeepO.mono hTa1.keep (fun b e => e ▸ hX.yc)).extR (by repeat (first | assumption | exact Ext.refl _ | refine Ext.alloc ?_ _ | refine Ext.drew ?_ | refine Ext.setB ?_ (by first | omega | (simp only [size_alloc, size_setB, size_drew]; omega)) _ | refine Ext.trans ?_ (by assumption)))⟩
  · rintro ρ4 w4 ⟨x2, hFr4, hX4, hM4, hxf4, hK4⟩
    refine W_env _ hFr4 ?_
    replace hO := hX4.omb
    have hSS4 := hX4.ss
    have hSb4 := hSS4.blk
    have hSl4 := hSb4.lt
    have hFb4 := hM4.blk
    have hFl4 := hFb4.lt
    have hz4 := hK4.sz
    have hzs4 := encYS_size x2
    obtain ⟨hmd2, hgn2⟩ := ydes2_made y f
    have hmd4 := hX4.ss.rel.now.made
    have hgn4 := hX4.ss.rel.now.gone
    rw [hmd2] at hmd4
    rw [hgn2] at hgn4
    have hmd4l := hmd4.len
    have hgn4l := hgn4.len
    have hmdb := hB.now.md
    have hgnb := hB.now.gn
    refine W_seqJ (fun ρ w' => ∃ (x2 : YSt), Fr [(0, .pointer (some ⟨C, 0, none⟩)), (1, .pointer (some ⟨F, rest.length * 60, none⟩))] ρ ∧ YX Y w' C x2 (ydes3 y f) xs (rest ++ [f]) ∧ FrM w' F (rest.length * 60) r xf f ∧ x2.frames = x.frames ∧ KeepO Y w w') ?_ ?_
    · skip
      refine W_seq ?_
      refine W_drawE [false, false, false, false, false, false, false, false, false, false] hmix (by kernel_rfl) rfl ?_
      refine WH_p (PS_move_ptr rfl) rfl ?_
      refine WH_p (PS_nilCheck rfl) rfl ?_
      refine WH_p (PS_fieldAddr 0 Hvac.runUnderlying99 rfl Hvac.sizeOf95 rfl rfl) rfl ?_
      refine WH_p (PS_fieldAddr 6 Hvac.runUnderlying95 rfl Hvac.sizeOf90 rfl rfl) rfl ?_
      refine WH_load (.slice _ _ _) Hvac.isAgg90 rfl (Hb.h (by repeat (first | assumption | exact Hb.newY _ _ | refine Hb.alloc ?_ | refine Hb.drew ?_ | refine Hb.ext (by assumption) ?_ | exact Hb.setSameL (by first | omega | (simp only [size_alloc, size_setB, size_drew]; omega)) | exact Hb.setSame (by assumption) | refine Hb.set (by first | omega | (simp only [size_alloc, size_setB, size_drew]; omega)) ?_ ))) (Ce.h (by first | assumption | exact ⟨rfl⟩)) ?_
      refine WH_p (PS_move_ptr rfl) rfl ?_
      refine WH_p (PS_nilCheck rfl) rfl ?_
      refine WH_p (PS_fieldAddr 12 Hvac.runUnderlying121 rfl Hvac.sizeOf25 rfl rfl) rfl ?_
      refine WH_loadA _ Hvac.isAgg25 Hvac.sizeOf25 rfl (Hb.h (by repeat (first | assumption | exact Hb.newY _ _ | refine Hb.alloc ?_ | refine Hb.drew ?_ | refine Hb.ext (by assumption) ?_ | exact Hb.setSameL (by first | omega | (simp only [size_alloc, size_setB, size_drew]; omega)) | exact Hb.setSame (by assumption) | refine Hb.set (by first | omega | (simp only [size_alloc, size_setB, size_drew]; omega)) ?_ ))) (by first | omega | assumption | rfl | decide | exact Nat.le_refl _ | (simp only [size_ic, Value.cells]; omega) | (simp [encWs]; done) | (simp; omega) | simp | exact encYA_sz (by assumption) | exact encYT_sz (by assumption) | exact encYM_sz (by assumption)) (Xt.h (by first | assumption | exact Xt.whole rfl rfl | exact Xt.whole rfl (by assumption) | exact Xt.whole rfl (by simp only [size_ic, Value.cells]; omega) | exact ⟨rfl⟩)) ?_
      refine WH_call Hvac.call122 (by rfl) (Ret.mono (yListed_spec _ (OmB.ext hO (by repeat (first | assumption | exact Ext.refl _ | refine Ext.alloc ?_ _ | refine Ext.drew ?_ | refine Ext.setB ?_ (by first | omega | (simp only [size_alloc, size_setB, size_drew]; omega)) _ | exact Ext.trans (by assumption) (by assumption) | refine Ext.trans ?_ (by assumption)))) _ _ _ _ (AdR.ext hmd4 (by repeat (first | assumption | exact Ext.refl _ | refine Ext.alloc ?_ _ | refine Ext.drew ?_ | refine Ext.setB ?_ (by first | omega | (simp only [size_alloc, size_setB, size_drew]; omega)) _ | exact Ext.trans (by assumption) (by assumption) | refine Ext.trans ?_ (by assumption)))) (by show x2.now.made.2.1 ≤ 100000000; omega) _ hFR.sb) ?_)
      rintro _ w122_7 ⟨hE122_7, rfl⟩
      refine ⟨(fun h => by cases h), ?_⟩
      have hz122_7 := hE122_7.1
      try simp only [size_alloc, size_setB, size_drew] at hz122_7
      refine WH_nil ?_
      refine thn_normal ?_
      refine W_if rfl (fun hb9 => ?_) (fun hb9 => ?_)
      · have hb9p := hb9.h; try simp only [al_ete, al_dfn, Bool.not_eq_true', Bool.not_eq_false', al_ne, Bool.not_not, al_nn] at hb9p
        have hin : f.self ∈ y.now.made := by simpa using hb9p
        refine W_drawE [false, false, false, false, false, false, false, false, false, false, false, false, false, false, false] hmix (by kernel_rfl) rfl ?_
        refine WH_p (PS_move_ptr rfl) rfl ?_
        refine WH_p (PS_move_ptr rfl) rfl ?_
        refine WH_p (PS_nilCheck rfl) rfl ?_
        refine WH_p (PS_fieldAddr 0 Hvac.runUnderlying99 rfl Hvac.sizeOf95 rfl rfl) rfl ?_
        refine WH_p (PS_fieldAddr 7 Hvac.runUnderlying95 rfl Hvac.sizeOf90 rfl rfl) rfl ?_
        refine WH_load (.slice _ _ _) Hvac.isAgg90 rfl (Hb.h (by repeat (first | assumption | exact Hb.newY _ _ | refine Hb.alloc ?_ | refine Hb.drew ?_ | refine Hb.ext (by assumption) ?_ | exact Hb.setSameL (by first | omega | (simp only [size_alloc, size_setB, size_drew]; omega)) | exact Hb.setSame (by assumption) | refine Hb.set (by first | omega | (simp only [size_alloc, size_setB, size_drew]; omega)) ?_ ))) (Ce.h (by first | assumption | exact ⟨rfl⟩)) ?_
        refine WH_p (PS_move_ptr rfl) rfl ?_
        refine WH_p (PS_nilCheck rfl) rfl ?_
        refine WH_p (PS_fieldAddr 12 Hvac.runUnderlying121 rfl Hvac.sizeOf25 rfl rfl) rfl ?_
        refine WH_loadA _ Hvac.isAgg25 Hvac.sizeOf25 rfl (Hb.h (by repeat (first | assumption | exact Hb.newY _ _ | refine Hb.alloc ?_ | refine Hb.drew ?_ | refine Hb.ext (by assumption) ?_ | exact Hb.setSameL (by first | omega | (simp only [size_alloc, size_setB, size_drew]; omega)) | exact Hb.setSame (by assumption) | refine Hb.set (by first | omega | (simp only [size_alloc, size_setB, size_drew]; omega)) ?_ ))) (by first | omega | assumption | rfl | decide | exact Nat.le_refl _ | (simp only [size_ic, Value.cells]; omega) | (simp [encWs]; done) | (simp; omega) | simp | exact encYA_sz (by assumption) | exact encYT_sz (by assumption) | exact encYM_sz (by assumption)) (Xt.h (by first | assumption | exact Xt.whole rfl rfl | exact Xt.whole rfl (by assumption) | exact Xt.whole rfl (by simp only [size_ic, Value.cells]; omega) | exact ⟨rfl⟩)) ?_
        refine WH_call Hvac.call88 (by rfl) (Ret.mono (yWith_spec _ (OmB.ext hO (by repeat (first | assumption | exact Ext.refl _ | refine Ext.alloc ?_ _ | refine Ext.drew ?_ | refine Ext.setB ?_ (by first | omega | (simp only [size_alloc, size_setB, size_drew]; omega)) _ | exact Ext.trans (by assumption) (by assumption) | refine Ext.trans ?_ (by assumption)))) _ _ _ _ (AdR.ext hgn4 (by repeat (first | assumption | exact Ext.refl _ | refine Ext.alloc ?_ _ | refine Ext.drew ?_ | refine Ext.setB ?_ (by first | omega | (simp only [size_alloc, size_setB, size_drew]; omega)) _ | exact Ext.trans (by assumption) (by assumption) | refine Ext.trans ?_ (by assumption)))) (by show x2.now.gone.2.1 ≤ 100000000; omega) _ hFR.sb) ?_)
        rintro _ w5 ⟨hE5, s5, rfl, hl5⟩
        refine ⟨(fun h => by cases h), ?_⟩
        have hz5 := hE5.1
        try simp only [size_alloc, size_setB, size_drew] at hz5
        refine WH_p (PS_nilCheck rfl) rfl ?_
        refine WH_p (PS_fieldAddr 0 Hvac.runUnderlying99 rfl Hvac.sizeOf95 rfl rfl) rfl ?_
        refine WH_p (PS_fieldAddr 7 Hvac.runUnderlying95 rfl Hvac.sizeOf90 rfl rfl) rfl ?_
        refine WH_store1 Hvac.sizeOf90 rfl (v := (.slice _ _ _)) rfl (Hb.h (by repeat (first | assumption | exact Hb.newY _ _ | refine Hb.alloc ?_ | refine Hb.drew ?_ | refine Hb.ext (by assumption) ?_ | exact Hb.setSameL (by first | omega | (simp only [size_alloc, size_setB, size_drew]; omega)) | exact Hb.setSame (by assumption) | refine Hb.set (by first | omega | (simp only [size_alloc, size_setB, size_drew]; omega)) ?_ ))) rfl (by first | omega | assumption | rfl | decide | exact Nat.le_refl _ | (simp only [size_ic, Value.cells]; omega) | (simp [encWs]; done) | (simp; omega) | simp | exact encYA_sz (by assumption) | exact encYT_sz (by assumption) | exact encYM_sz (by assumption)) rfl (fun h => by cases h) ?_
        refine WH_nil ?_
        refine thn_normal ?_
        rw [ydes3, if_pos hin]; exact (fun (hq : SStep w4 _ C (xsGone x2 s5) (ysGone (ydes2 y f) (ywith y.now.gone f.self))) => ⟨xsGone x2 s5, ⟨rfl, rfl, trivial⟩, hX4.sstep hq rfl rfl, hM4.cs hX4.ss.blk hX4.ss.om hq.keep, hxf4, hK4.trans (KeepO.mono hq.keep (fun b e => e ▸ hX.yc)) (fun _ _ e => e)⟩) (SStep.put2 rfl hX4.ss (by repeat (first | assumption | exact Ext.refl _ | refine Ext.alloc ?_ _ | refine Ext.drew ?_ | refine Ext.setB ?_ (by first | omega | (simp only [size_alloc, size_setB, size_drew]; omega)) _ | refine Ext.trans ?_ (by assumption))) (encYS_7 x2 s5) { StRel.ext hX4.ss.rel (by repeat (first | assumption | exact Ext.refl _ | refine Ext.alloc ?_ _ | refine Ext.drew ?_ | refine Ext.setB ?_ (by first | omega | (simp only [size_alloc, size_setB, size_drew]; omega)) _ | refine Ext.trans ?_ (by assumption))) with now := { (StRel.ext hX4.ss.rel (by repeat (first | assumption | exact Ext.refl _ | refine Ext.alloc ?_ _ | refine Ext.drew ?_ | refine Ext.setB ?_ (by first | omega | (simp only [size_alloc, size_setB, size_drew]; omega)) _ | refine Ext.trans ?_ (by assumption)))).now with gone := AdR.ext hl5 (by repeat (first | assumption | exact Ext.refl _ | refine Ext.alloc ?_ _ | refine Ext.drew ?_ | refine Ext.setB ?_ (by first | omega | (simp only [size_alloc, size_setB, size_drew]; omega)) _ | refine Ext.trans ?_ (by assumption))) } })
      · have hb9p := hb9.h; try simp only [al_ete, al_dfn, Bool.not_eq_true', Bool.not_eq_false', al_ne, Bool.not_not, al_nn] at hb9p
        have hin : ¬ f.self ∈ y.now.made := by simpa using hb9p
        refine W_skip ?_
        refine thn_normal ?_
        rw [ydes3, if_neg hin]; exact ⟨x2, ⟨rfl, rfl, trivial⟩, hX4.ext (by repeat (first | assumption | exact Ext.refl _ | refine Ext.alloc ?_ _ | refine Ext.drew ?_ | refine Ext.setB ?_ (by first | omega | (simp only [size_alloc, size_setB, size_drew]; omega)) _ | refine Ext.trans ?_ (by assumption))), hM4.ext (by repeat (first | assumption | exact Ext.refl _ | refine Ext.alloc ?_ _ | refine Ext.drew ?_ | refine Ext.setB ?_ (by first | omega | (simp only [size_alloc, size_setB, size_drew]; omega)) _ | refine Ext.trans ?_ (by assumption))), hxf4, hK4.extR (by repeat (first | assumption | exact Ext.refl _ | refine Ext.alloc ?_ _ | refine Ext.drew ?_ | refine Ext.setB ?_ (by first | omega | (simp only [size_alloc, size_setB, size_drew]; omega)) _ | refine Ext.trans ?_ (by assumption)))⟩
    · rintro ρ6 w6 ⟨x3, hFr6, hX6, hM6, hxf6, hK6⟩
      refine W_env _ hFr6 ?_
      replace hO := hX6.omb
      have hB6 := hB.des3 (by omega) f
      refine W_region rfl ?_
      refine WO_p (PS_move_ptr rfl) ?_
      refine WO_call Hvac.call43 (by rfl) (Ret.mono (yLeave_spec _ (OmB.ext hO (by repeat (first | assumption | exact Ext.refl _ | refine Ext.alloc ?_ _ | refine Ext.drew ?_ | refine Ext.setB ?_ (by first | omega | (simp only [size_alloc, size_setB, size_drew]; omega)) _ | exact Ext.trans (by assumption) (by assumption) | refine Ext.trans ?_ (by assumption)))) Y C x3 _ xs rest f (N + 4) (YX.ext hX6 (by repeat (first | assumption | exact Ext.refl _ | refine Ext.alloc ?_ _ | refine Ext.drew ?_ | refine Ext.setB ?_ (by first | omega | (simp only [size_alloc, size_setB, size_drew]; omega)) _ | exact Ext.trans (by assumption) (by assumption) | refine Ext.trans ?_ (by assumption)))) hB6 (by omega) hP hPr hgf (by omega) 0 (by omega) _ _ _ _ (PB.nil _) (by omega)) ?_)
      rintro _ w8 ⟨rfl, hY8⟩
      refine WO_nil ?_
      first | refine bodyQ_ret0 Hvac.results48 ?_ | refine bodyQ_end0 Hvac.results48 ?_
      exact ⟨rfl, YRet.pre (hK6.extR (by repeat (first | assumption | exact Ext.refl _ | refine Ext.alloc ?_ _ | refine Ext.drew ?_ | refine Ext.setB ?_ (by first | omega | (simp only [size_alloc, size_setB, size_drew]; omega)) _ | refine Ext.trans ?_ (by assumption)))) hY8⟩

end Go.Proofs.YgvacwGreat
