import Derived.Test.YgvacwGreatHg
namespace Go.Proofs.YgvacwGreat
set_option linter.unusedSimpArgs false
set_option linter.unusedVariables false
def ycallv (f : PF) (o : Int) : Nat := if o = 241 ∨ o = 242 then yarg f 2 else 0
def yck (o : Int) : Nat := (ytakes o - 4).toNat
def ycch (f : PF) (o : Int) : PF := kPF (if o = 242 then 7 else if o = 244 then 3 else if o = 250 then 4 else 2) (if o = 250 then true else f.statY) 0 (if o = 244 then f.value else ycallv f o) [] (if o = 242 ∨ o = 244 then f.self else yaddr (yarg f 1)) (if o = 244 then f.caller else f.self)
def ycgas (f : PF) (o : Int) : Nat := if ycallv f o ≠ 0 then ysent f.gas (yarg f 0) + 2300 else ysent f.gas (yarg f 0)
def ycall1 (y : PSt) (f : PF) : PSt := ysWarmA y (ywith y.now.warmA (yaddr (yarg f 1)))
def ycallf (f : PF) : PF := { f with gas := f.gas - ysent f.gas (yarg f 0) }
def ycallx (y : PSt) (f : PF) (o : Int) : PF := { ycch f o with gas := ycgas f o, inputY := ycut f.mem (yarg f (yck o)) (yarg f (yck o + 1)), nat := ynative (yaddr (yarg f 1)), code := if ynative (yaddr (yarg f 1)) = 0 then (yacct y.now.accts (yaddr (yarg f 1))).code else [] }
def yenterCall (y : PSt) (rest : List PF) (f : PF) (o : Int) : PSt × List PF :=
  if 6 ≤ rest.length ∨ (yacct y.now.accts f.self).bal < ycallv f o then (ycall1 y f, rest ++ [yanswer { ycallf f with gas := (ycallf f).gas + ycgas f o } (ytakes o).toNat 0])
  else yenter (ycall1 y f) (rest ++ [ywait (ycallf f) (ytakes o).toNat (yarg f (yck o + 2)) (yarg f (yck o + 3))]) (ycallx y f o)
theorem ytakes_call {o : Int} (h : o = 241 ∨ o = 242 ∨ o = 244 ∨ o = 250) : ytakes o = (if o = 241 ∨ o = 242 then 7 else 6) := by rcases h with rfl | rfl | rfl | rfl <;> decide
theorem encYF_0i (x : YFr) (n : Nat) (z : Int) (h : z = n) : (encYF x).toArray.setIfInBounds (0 + 0) (.int .u8 z) = (encYF { x with kind := n }).toArray := by rw [h]; exact encYF_0 x n
theorem kYF_k {k : Nat} {st : Bool} {g v cd : SV} {A B : List Int} (n : Nat) (z : Int) (h : z = n) : (encYF (kYF k st g v cd A B)).toArray.setIfInBounds (0 + 0) (.int .u8 z) = (encYF (kYF n st g v cd A B)).toArray := encYF_0i _ n z h
theorem kYF_s {k : Nat} {st : Bool} {g v cd : SV} {A B : List Int} (n : Bool) : (encYF (kYF k st g v cd A B)).toArray.setIfInBounds (0 + 2) (.bool n) = (encYF (kYF k n g v cd A B)).toArray := encYF_2 _ n
theorem kYF_v {k : Nat} {st : Bool} {g v cd : SV} {A B : List Int} (s : SV) : (encYF (kYF k st g v cd A B)).toArray.setIfInBounds (0 + 5) (.slice s.1 s.2.1 s.2.2) = (encYF (kYF k st g s cd A B)).toArray := encYF_5 _ s
theorem kYF_A {k : Nat} {st : Bool} {g v cd : SV} {A B A2 : List Int} (h : A.length = 20) (h2 : A2.length = 20) : splice (encYF (kYF k st g v cd A B)).toArray (0 + 12) (ic .u8 A2).toList = (encYF (kYF k st g v cd A2 B)).toArray := encYF_12 (x := kYF k st g v cd A B) h h2
theorem kYF_B {k : Nat} {st : Bool} {g v cd : SV} {A B B2 : List Int} (h : A.length = 20) (h1 : B.length = 20) (h2 : B2.length = 20) : splice (encYF (kYF k st g v cd A B)).toArray (0 + 32) (ic .u8 B2).toList = (encYF (kYF k st g v cd A B2)).toArray := encYF_13 (x := kYF k st g v cd A B) h h1 h2
theorem kYF_sz {k : Nat} {st : Bool} {g v cd : SV} {A B : List Int} (h : A.length = 20) (h1 : B.length = 20) : (encYF (kYF k st g v cd A B)).toArray.size = 60 := encYF_sz (x := kYF k st g v cd A B) h h1
theorem NN.b121 [Om] {w : World} {s : SV} {n b : Nat} {r : Array Value} {o : Obj} (h : NN w s n) (hb : Hb w b (.cells r 121 (0, 0))) : NN (setB w b o) s n := h.kt (KT.setB hb (by decide))
theorem ycch_241 (f : PF) : ycch f 241 = kPF 2 f.statY 0 (ycallv f 241) [] (yaddr (yarg f 1)) f.self := by simp [ycch]
theorem ycch_242 (f : PF) : ycch f 242 = kPF 7 f.statY 0 (ycallv f 242) [] f.self f.self := by simp [ycch]
theorem ycch_244 (f : PF) : ycch f 244 = kPF 3 f.statY 0 f.value [] f.self f.caller := by simp [ycch]
theorem ycch_250 (f : PF) : ycch f 250 = kPF 4 true 0 (ycallv f 250) [] (yaddr (yarg f 1)) f.self := by simp [ycch]
theorem sz_ysent {g a : Nat} (h : sz g ≤ 30) : sz (ysent g a) ≤ 30 := Nat.le_trans (sz_mono (Nat.le_trans (Nat.min_le_right _ _) (Nat.sub_le _ _))) h

set_option maxRecDepth 10000 in
set_option maxHeartbeats 4000000 in
theorem yEnterCall_spec [Om] (w : World) (hO : OmB w) (Y : Nat → Prop) (C : Nat) (x : YSt) (y : PSt) (xs : List YFr) (rest : List PF) (f : PF) (N : Nat) (hX : YX Y w C x y xs (rest ++ [f])) (hB : PSB N y) (hN : N ≤ 99999800) (hYB : YB y) (hP : PFB f) (hPr : ∀ g ∈ rest, PFB g ∧ sz g.gas ≤ 30) (hgf : sz f.gas ≤ 30) (hrl : rest.length ≤ 800) (F : Nat) (hFp : x.frames.1 = some ⟨F, 0, none⟩) (o : Int) (ho : o = 241 ∨ o = 242 ∨ o = 244 ∨ o = 250) (hst : (ytakes o).toNat ≤ f.stack.length) (hin : yarg f (yck o + 1) ≤ 1000000) (hfv : sz f.value ≤ 32) : Ret Hvac.prog 124 #[.pointer (some ⟨C, 0, none⟩), .pointer (some ⟨F, rest.length * 60, none⟩), .int .u8 o] w fun u w' => u = .tuple #[] ∧ YRet Y w w' C (yenterCall y rest f o).1 (yenterCall y rest f o).2 := by
  have hO0 := hO
  have hSb := hX.ss.blk
  have hSS := hX.ss
  have hSo := hX.ss.om
  have hSl := hSb.lt
  obtain ⟨r, xf, hxf, hFM, hMW, hYF, hlf⟩ := hX.top hFp
  have hFR := hFM.rel
  have hFC := hFM.fc
  have hFb := hFM.blk
  have hFo := hFM.om
  have hFl := hFb.lt
  have hFsz := hFC.size
  have hFS := hFM.s0
  have hk12 := hFC.self
  rw [hFR.self] at hk12
  have hsbl := hFR.sb.1
  have hzs := encYS_size x
  have hfcap := hX.frs.cap
  have ho8 : 0 ≤ o ∧ o ≤ 255 := by omega
  have htk := ytakes_call ho
  have htk2 : 6 ≤ ytakes o ∧ ytakes o ≤ 7 := by rw [htk]; split <;> omega
  obtain ⟨tk, htkk⟩ : ∃ tk : Nat, ytakes o = (tk : Int) := ⟨(ytakes o).toNat, by omega⟩
  have htn : (ytakes o).toNat = tk := by omega
  have hckn : yck o = tk - 4 := by unfold yck; omega
  rw [htkk] at htk2
  rw [htn] at hst
  rw [hckn] at hin
  have hAl := (yaddr_by (yarg f 1)).1
  have hsz0 := fr0_sz
  have hk2 := hFC.statY
  rw [hFR.statY] at hk2
  have hk32 := hFC.caller
  rw [hFR.caller] at hk32
  have hcbl := hFR.cb.1
  have hk5 := hFC.value
  have hz11 : sz (ycallv f o) ≤ 32 := by unfold ycallv; split; exact sz_yarg hP 2; rw [sz_zero]; omega
  refine Ret_of_W Hvac.func124 rfl rfl ?_
  refine W_seq ?_
  refine W_region rfl ?_
  refine WO_p (PS_move_int rfl) ?_
  refine WO_call Hvac.call111 (by rfl) (Ret.mono (arity_spec _ _ ho8) ?_)
  rintro _ w111_0 ⟨hE111_0, rfl⟩
  have hz111_0 := hE111_0.1
  try simp only [size_alloc, size_setB, size_drew] at hz111_0
  refine WO_p (PS_move_tuple rfl) ?_
  refine WO_p (PS_extract_int rfl rfl) ?_
  refine WO_p (PS_extract_int rfl rfl) ?_
  refine WO_p (PS_extract_bool rfl rfl) ?_
  refine WO_p (PS_assign_int rfl) ?_
  refine WO_p (PS_assign_int rfl) ?_
  refine WO_p (PS_assign_bool rfl) ?_
  refine WO_nil ?_
  refine thn_normal ?_
  refine W_seq ?_
  rw [htkk]
  refine W_region rfl ?_
  refine WO_p (PS_move_ptr rfl) ?_
  refine WO_call Hvac.call47 (by rfl) (Ret.mono (yArg_spec _ (OmB.ext hO (by repeat (first | assumption | exact Ext.refl _ | refine Ext.alloc ?_ _ | refine Ext.drew ?_ | refine Ext.setB ?_ (by first | omega | (simp only [size_alloc, size_setB, size_drew]; omega)) _ | exact Ext.trans (by assumption) (by assumption) | refine Ext.trans ?_ (by assumption)))) _ _ _ _ (by first | assumption | exact FrS.ext (by assumption) (by repeat (first | assumption | exact Ext.refl _ | refine Ext.alloc ?_ _ | refine Ext.drew ?_ | refine Ext.setB ?_ (by first | omega | (simp only [size_alloc, size_setB, size_drew]; omega)) _ | exact Ext.trans (by assumption) (by assumption) | refine Ext.trans ?_ (by assumption)))) hP _ (by decide)) ?_)
  rintro _ w47_2 ⟨hE47_2, s9, rfl, hN9, hs9⟩
  have hz47_2 := hE47_2.1
  try simp only [size_alloc, size_setB, size_drew] at hz47_2
  refine WO_p (PS_assign_slice rfl) ?_
  refine WO_nil ?_
  refine thn_normal ?_
  refine W_seq ?_
  refine W_region rfl ?_
  refine WO_p (PS_move_ptr rfl) ?_
  refine WO_call Hvac.call47 (by rfl) (Ret.mono (yArg_spec _ (OmB.ext hO (by repeat (first | assumption | exact Ext.refl _ | refine Ext.alloc ?_ _ | refine Ext.drew ?_ | refine Ext.setB ?_ (by first | omega | (simp only [size_alloc, size_setB, size_drew]; omega)) _ | exact Ext.trans (by assumption) (by assumption) | refine Ext.trans ?_ (by assumption)))) _ _ _ _ (by first | assumption | exact FrS.ext (by assumption) (by repeat (first | assumption | exact Ext.refl _ | refine Ext.alloc ?_ _ | refine Ext.drew ?_ | refine Ext.setB ?_ (by first | omega | (simp only [size_alloc, size_setB, size_drew]; omega)) _ | exact Ext.trans (by assumption) (by assumption) | refine Ext.trans ?_ (by assumption)))) hP _ (by decide)) ?_)
  rintro _ w47_3 ⟨hE47_3, s47_3, rfl, hN47_3, hs47_3⟩
  have hz47_3 := hE47_3.1
  try simp only [size_alloc, size_setB, size_drew] at hz47_3
  refine WO_call Hvac.call121 (by rfl) (Ret.mono (yAddrOf_spec _ (OmB.ext hO (by repeat (first | assumption | exact Ext.refl _ | refine Ext.alloc ?_ _ | refine Ext.drew ?_ | refine Ext.setB ?_ (by first | omega | (simp only [size_alloc, size_setB, size_drew]; omega)) _ | exact Ext.trans (by assumption) (by assumption) | refine Ext.trans ?_ (by assumption)))) _ _ _ _ (by first | exact NN.nil _ | assumption | exact NN.ext (by assumption) (by repeat (first | assumption | exact Ext.refl _ | refine Ext.alloc ?_ _ | refine Ext.drew ?_ | refine Ext.setB ?_ (by first | omega | (simp only [size_alloc, size_setB, size_drew]; omega)) _ | exact Ext.trans (by assumption) (by assumption) | refine Ext.trans ?_ (by assumption)))) (by first | assumption | omega | (rw [sz_zero]; omega))) ?_)
  rintro _ w121_4 ⟨hE121_4, rfl⟩
  have hz121_4 := hE121_4.1
  try simp only [size_alloc, size_setB, size_drew] at hz121_4
  refine WO_allocG Hvac.zeroValue25 ?_
  intro b10 v10 hg10 hE10 hH10 hl10
  try simp only [size_alloc, size_setB, size_drew] at hg10
  have hzz10 := hE10.1
  try simp only [size_alloc, size_setB, size_drew] at hzz10
  replace hH10 : Hb v10 b10 (.cells (ic .u8 (List.replicate 20 0)) 25 (0, 0)) := hH10
  first | refine WO_storeW Hvac.sizeOf25 rfl (v := .agg _) rfl (Hb.h (by repeat (first | assumption | exact Hb.newY _ _ | refine Hb.alloc ?_ | refine Hb.drew ?_ | refine Hb.ext (by assumption) ?_ | exact Hb.setSameL (by first | omega | (simp only [size_alloc, size_setB, size_drew]; omega)) | exact Hb.setSame (by assumption) | refine Hb.set (by first | omega | (simp only [size_alloc, size_setB, size_drew]; omega)) ?_ ))) rfl (by first | omega | assumption | rfl | decide | exact Nat.le_refl _ | (simp only [size_ic, Value.cells]; omega) | (simp [encWs]; done) | (simp; omega) | simp | exact encYA_sz (by assumption) | exact encYT_sz (by assumption) | exact encYM_sz (by assumption)) (by first | omega | assumption | rfl | decide | exact Nat.le_refl _ | (simp only [size_ic, Value.cells]; omega) | (simp [encWs]; done) | (simp; omega) | simp | exact encYA_sz (by assumption) | exact encYT_sz (by assumption) | exact encYM_sz (by assumption)) (by first | exact oneCell_ic | assumption | exact one_Ws2 _ | exact one_YA2 _ | exact one_YSl2 _ | exact one_YM2 _ | exact one_YT2 _ | exact one_L2 _) ?_ | refine WO_store Hvac.sizeOf25 rfl (v := .agg _) rfl (Hb.h (by repeat (first | assumption | exact Hb.newY _ _ | refine Hb.alloc ?_ | refine Hb.drew ?_ | refine Hb.ext (by assumption) ?_ | exact Hb.setSameL (by first | omega | (simp only [size_alloc, size_setB, size_drew]; omega)) | exact Hb.setSame (by assumption) | refine Hb.set (by first | omega | (simp only [size_alloc, size_setB, size_drew]; omega)) ?_ ))) (by first | omega | assumption | rfl | decide | exact Nat.le_refl _ | (simp only [size_ic, Value.cells]; omega) | (simp [encWs]; done) | (simp; omega) | simp | exact encYA_sz (by assumption) | exact encYT_sz (by assumption) | exact encYM_sz (by assumption)) (by first | omega | assumption | rfl | decide | exact Nat.le_refl _ | (simp only [size_ic, Value.cells]; omega) | (simp [encWs]; done) | (simp; omega) | simp | exact encYA_sz (by assumption) | exact encYT_sz (by assumption) | exact encYM_sz (by assumption)) (by first | exact oneCell_ic | assumption | exact one_Ws2 _ | exact one_YA2 _ | exact one_YSl2 _ | exact one_YM2 _ | exact one_YT2 _ | exact one_L2 _) ?_
  refine WO_nil ?_
  refine thn_normal ?_
  refine W_seq ?_
  refine W_drawE [false, false, false, false, false] hmix (by kernel_rfl) rfl ?_
  refine WH_p (PS_move_ptr rfl) rfl ?_
  refine WH_p (PS_nilCheck rfl) rfl ?_
  refine WH_p (PS_fieldAddr 0 Hvac.runUnderlying99 rfl Hvac.sizeOf95 rfl rfl) rfl ?_
  refine WH_loadA _ Hvac.isAgg25 Hvac.sizeOf25 rfl (Hb.h (by repeat (first | assumption | exact Hb.newY _ _ | refine Hb.alloc ?_ | refine Hb.drew ?_ | refine Hb.ext (by assumption) ?_ | exact Hb.setSameL (by first | omega | (simp only [size_alloc, size_setB, size_drew]; omega)) | exact Hb.setSame (by assumption) | refine Hb.set (by first | omega | (simp only [size_alloc, size_setB, size_drew]; omega)) ?_ ))) (by first | omega | assumption | rfl | decide | exact Nat.le_refl _ | (simp only [size_ic, Value.cells]; omega) | (simp [encWs]; done) | (simp; omega) | simp | exact encYA_sz (by assumption) | exact encYT_sz (by assumption) | exact encYM_sz (by assumption)) (Xt.h (by first | assumption | exact Xt.whole rfl rfl | exact Xt.whole rfl (by assumption) | exact Xt.whole rfl (by simp only [size_ic, Value.cells]; omega) | exact ⟨rfl⟩)) ?_
  refine WH_call Hvac.call27 (by rfl) (Ret.mono (warmS_ (OmB.ext hO (by repeat (first | assumption | exact Ext.refl _ | refine Ext.alloc ?_ _ | refine Ext.drew ?_ | refine Ext.setB ?_ (by first | omega | (simp only [size_alloc, size_setB, size_drew]; omega)) _ | exact Ext.trans (by assumption) (by assumption) | refine Ext.trans ?_ (by assumption)))) (by first | assumption | exact YSS.ext (by assumption) (by repeat (first | assumption | exact Ext.refl _ | refine Ext.alloc ?_ _ | refine Ext.drew ?_ | refine Ext.setB ?_ (by first | omega | (simp only [size_alloc, size_setB, size_drew]; omega)) _ | exact Ext.trans (by assumption) (by assumption) | refine Ext.trans ?_ (by assumption)))) hB (by omega) (by first | exact hFR.sb | exact yaddr_by _)) ?_)
  rintro _ w3 ⟨rfl, s3, hT3⟩
  refine ⟨(fun h => by cases h), ?_⟩
  have hTa3 : SStep w w3 C (xsWarmA x s3) (ycall1 y f) := SStep.pre (by repeat (first | assumption | exact Ext.refl _ | refine Ext.alloc ?_ _ | refine Ext.drew ?_ | refine Ext.setB ?_ (by first | omega | (simp only [size_alloc, size_setB, size_drew]; omega)) _ | refine Ext.trans ?_ (by assumption))) hT3
  have hX3 := hX.sstep hTa3 rfl rfl
  have hM3 := hFM.cs hX.ss.blk hX.ss.om hTa3.keep
  have hS3 := hM3.s0
  have hSS3 := hX3.ss
  have hSb3 := hSS3.blk
  have hSl3 := hSb3.lt
  have hFb3 := hM3.blk
  have hFl3 := hFb3.lt
  replace hO := hX3.omb
  have hz3 := hTa3.keep.sz
  have hzs3 := encYS_size (xsWarmA x s3)
  have hb10_3 : Hb w3 b10 (.cells (ic .u8 (yaddr (yarg f 1))) 25 (0, 0)) := Hb.keepO hT3.keep (fun e => absurd e (by omega)) (Hb.mk (Hb.h (by repeat (first | assumption | exact Hb.newY _ _ | refine Hb.alloc ?_ | refine Hb.drew ?_ | refine Hb.ext (by assumption) ?_ | exact Hb.setSameL (by first | omega | (simp only [size_alloc, size_setB, size_drew]; omega)) | exact Hb.setSame (by assumption) | refine Hb.set (by first | omega | (simp only [size_alloc, size_setB, size_drew]; omega)) ?_ ))))
  have hb10l3 := hb10_3.lt
  have hB3 := hB.warmA (yaddr (yarg f 1))
  replace hN9 := (NN.ext hN9 (by repeat (first | assumption | exact Ext.refl _ | refine Ext.alloc ?_ _ | refine Ext.drew ?_ | refine Ext.setB ?_ (by first | omega | (simp only [size_alloc, size_setB, size_drew]; omega)) _ | refine Ext.trans ?_ (by assumption)))).keep hT3.ko
  have hNv3 := hM3.rel.value
  refine WH_nil ?_
  refine thn_normal ?_
  refine W_seq ?_
  refine W_region rfl ?_
  refine WO_p (PS_assign_slice rfl) ?_
  refine WO_nil ?_
  refine thn_normal ?_
  refine W_seqJ (fun ρ w' => ∃ (s11 : SV), Fr [(0, .pointer (some ⟨C, 0, none⟩)), (1, .pointer (some ⟨F, rest.length * 60, none⟩)), (2, .int .u8 o), (6, .int .i64 (tk : Int)), (9, .slice s9.1 s9.2.1 s9.2.2), (10, .pointer (some ⟨b10, 0, none⟩)), (11, .slice s11.1 s11.2.1 s11.2.2)] ρ ∧ Ext w3 w' ∧ Hb w' b10 (.cells (ic .u8 (yaddr (yarg f 1))) 25 (0, 0)) ∧ NN w' s11 (ycallv f o)) ?_ ?_
  · skip
    refine W_seq ?_
    refine W_region rfl ?_
    refine WO_p (PS_move_int rfl) ?_
    refine WO_p (PS_eql rfl rfl) ?_
    refine WO_p (PS_move_bool rfl) ?_
    refine WO_if (t := 33) rfl (fun hb8 => ?_) (fun hb8 => ?_)
    · have hb8p := hb8.h; try simp only [al_ete, al_dfn, Bool.not_eq_true', Bool.not_eq_false', al_ne, Bool.not_not, al_nn] at hb8p
      have ho5 : o = 241 := by omega
      refine WO_guardF rfl rfl hb8.h ?_
      refine WO_guardF rfl rfl hb8.h ?_
      refine WO_p (PS_pickT rfl hb8.h rfl) ?_
      refine WO_nil ?_
      refine thn_normal ?_
      refine W_condT rfl rfl ?_
      refine W_region rfl ?_
      refine WO_p (PS_move_ptr rfl) ?_
      refine WO_call Hvac.call47 (by rfl) (Ret.mono (yArg_spec _ (OmB.ext hO (by repeat (first | assumption | exact Ext.refl _ | refine Ext.alloc ?_ _ | refine Ext.drew ?_ | refine Ext.setB ?_ (by first | omega | (simp only [size_alloc, size_setB, size_drew]; omega)) _ | exact Ext.trans (by assumption) (by assumption) | refine Ext.trans ?_ (by assumption)))) _ _ _ _ (by first | assumption | exact FrS.ext (by assumption) (by repeat (first | assumption | exact Ext.refl _ | refine Ext.alloc ?_ _ | refine Ext.drew ?_ | refine Ext.setB ?_ (by first | omega | (simp only [size_alloc, size_setB, size_drew]; omega)) _ | exact Ext.trans (by assumption) (by assumption) | refine Ext.trans ?_ (by assumption)))) hP _ (by decide)) ?_)
      rintro _ w47_8 ⟨hE47_8, s47_8, rfl, hN47_8, hs47_8⟩
      have hz47_8 := hE47_8.1
      try simp only [size_alloc, size_setB, size_drew] at hz47_8
      refine WO_p (PS_assign_slice rfl) ?_
      refine WO_nil ?_
      refine thn_normal ?_
      first | (have hcv : ycallv f o = yarg f 2 := (by unfold ycallv; rw [if_pos (by omega)]); rw [hcv]; exact ⟨(_, _, _), ⟨rfl, rfl, rfl, rfl, rfl, rfl, rfl, trivial⟩, (by repeat (first | assumption | exact Ext.refl _ | refine Ext.alloc ?_ _ | refine Ext.drew ?_ | refine Ext.setB ?_ (by first | omega | (simp only [size_alloc, size_setB, size_drew]; omega)) _ | refine Ext.trans ?_ (by assumption))), Hb.mk (Hb.h (by repeat (first | assumption | exact Hb.newY _ _ | refine Hb.alloc ?_ | refine Hb.drew ?_ | refine Hb.ext (by assumption) ?_ | exact Hb.setSameL (by first | omega | (simp only [size_alloc, size_setB, size_drew]; omega)) | exact Hb.setSame (by assumption) | refine Hb.set (by first | omega | (simp only [size_alloc, size_setB, size_drew]; omega)) ?_ ))), (by first | exact NN.nil _ | assumption | exact NN.ext (by assumption) (by repeat (first | assumption | exact Ext.refl _ | refine Ext.alloc ?_ _ | refine Ext.drew ?_ | refine Ext.setB ?_ (by first | omega | (simp only [size_alloc, size_setB, size_drew]; omega)) _ | refine Ext.trans ?_ (by assumption))))⟩) | (have hcv : ycallv f o = 0 := (by unfold ycallv; rw [if_neg (by omega)]); rw [hcv]; exact ⟨(none, 0, 0), ⟨rfl, rfl, rfl, rfl, rfl, rfl, rfl, trivial⟩, (by repeat (first | assumption | exact Ext.refl _ | refine Ext.alloc ?_ _ | refine Ext.drew ?_ | refine Ext.setB ?_ (by first | omega | (simp only [size_alloc, size_setB, size_drew]; omega)) _ | refine Ext.trans ?_ (by assumption))), Hb.mk (Hb.h (by repeat (first | assumption | exact Hb.newY _ _ | refine Hb.alloc ?_ | refine Hb.drew ?_ | refine Hb.ext (by assumption) ?_ | exact Hb.setSameL (by first | omega | (simp only [size_alloc, size_setB, size_drew]; omega)) | exact Hb.setSame (by assumption) | refine Hb.set (by first | omega | (simp only [size_alloc, size_setB, size_drew]; omega)) ?_ ))), NN.nil _⟩)
    · have hb8p := hb8.h; try simp only [al_ete, al_dfn, Bool.not_eq_true', Bool.not_eq_false', al_ne, Bool.not_not, al_nn] at hb8p
      refine WO_guardT rfl rfl hb8.h ?_
      refine WO_p (PS_move_int rfl) ?_
      refine WO_guardT rfl rfl hb8.h ?_
      refine WO_p (PS_eql rfl rfl) ?_
      refine WO_p (PS_pickF rfl hb8.h rfl) ?_
      refine WO_nil ?_
      refine thn_normal ?_
      refine W_if rfl (fun hb11 => ?_) (fun hb11 => ?_)
      · have hb11p := hb11.h; try simp only [al_ete, al_dfn, Bool.not_eq_true', Bool.not_eq_false', al_ne, Bool.not_not, al_nn] at hb11p
        have ho5 : o = 242 := by omega
        refine W_region rfl ?_
        refine WO_p (PS_move_ptr rfl) ?_
        refine WO_call Hvac.call47 (by rfl) (Ret.mono (yArg_spec _ (OmB.ext hO (by repeat (first | assumption | exact Ext.refl _ | refine Ext.alloc ?_ _ | refine Ext.drew ?_ | refine Ext.setB ?_ (by first | omega | (simp only [size_alloc, size_setB, size_drew]; omega)) _ | exact Ext.trans (by assumption) (by assumption) | refine Ext.trans ?_ (by assumption)))) _ _ _ _ (by first | assumption | exact FrS.ext (by assumption) (by repeat (first | assumption | exact Ext.refl _ | refine Ext.alloc ?_ _ | refine Ext.drew ?_ | refine Ext.setB ?_ (by first | omega | (simp only [size_alloc, size_setB, size_drew]; omega)) _ | exact Ext.trans (by assumption) (by assumption) | refine Ext.trans ?_ (by assumption)))) hP _ (by decide)) ?_)
        rintro _ w47_11 ⟨hE47_11, s47_11, rfl, hN47_11, hs47_11⟩
        have hz47_11 := hE47_11.1
        try simp only [size_alloc, size_setB, size_drew] at hz47_11
        refine WO_p (PS_assign_slice rfl) ?_
        refine WO_nil ?_
        refine thn_normal ?_
        first | (have hcv : ycallv f o = yarg f 2 := (by unfold ycallv; rw [if_pos (by omega)]); rw [hcv]; exact ⟨(_, _, _), ⟨rfl, rfl, rfl, rfl, rfl, rfl, rfl, trivial⟩, (by repeat (first | assumption | exact Ext.refl _ | refine Ext.alloc ?_ _ | refine Ext.drew ?_ | refine Ext.setB ?_ (by first | omega | (simp only [size_alloc, size_setB, size_drew]; omega)) _ | refine Ext.trans ?_ (by assumption))), Hb.mk (Hb.h (by repeat (first | assumption | exact Hb.newY _ _ | refine Hb.alloc ?_ | refine Hb.drew ?_ | refine Hb.ext (by assumption) ?_ | exact Hb.setSameL (by first | omega | (simp only [size_alloc, size_setB, size_drew]; omega)) | exact Hb.setSame (by assumption) | refine Hb.set (by first | omega | (simp only [size_alloc, size_setB, size_drew]; omega)) ?_ ))), (by first | exact NN.nil _ | assumption | exact NN.ext (by assumption) (by repeat (first | assumption | exact Ext.refl _ | refine Ext.alloc ?_ _ | refine Ext.drew ?_ | refine Ext.setB ?_ (by first | omega | (simp only [size_alloc, size_setB, size_drew]; omega)) _ | refine Ext.trans ?_ (by assumption))))⟩) | (have hcv : ycallv f o = 0 := (by unfold ycallv; rw [if_neg (by omega)]); rw [hcv]; exact ⟨(none, 0, 0), ⟨rfl, rfl, rfl, rfl, rfl, rfl, rfl, trivial⟩, (by repeat (first | assumption | exact Ext.refl _ | refine Ext.alloc ?_ _ | refine Ext.drew ?_ | refine Ext.setB ?_ (by first | omega | (simp only [size_alloc, size_setB, size_drew]; omega)) _ | refine Ext.trans ?_ (by assumption))), Hb.mk (Hb.h (by repeat (first | assumption | exact Hb.newY _ _ | refine Hb.alloc ?_ | refine Hb.drew ?_ | refine Hb.ext (by assumption) ?_ | exact Hb.setSameL (by first | omega | (simp only [size_alloc, size_setB, size_drew]; omega)) | exact Hb.setSame (by assumption) | refine Hb.set (by first | omega | (simp only [size_alloc, size_setB, size_drew]; omega)) ?_ ))), NN.nil _⟩)
      · have hb11p := hb11.h; try simp only [al_ete, al_dfn, Bool.not_eq_true', Bool.not_eq_false', al_ne, Bool.not_not, al_nn] at hb11p
        refine W_skip ?_
        refine thn_normal ?_
        first | (have hcv : ycallv f o = yarg f 2 := (by unfold ycallv; rw [if_pos (by omega)]); rw [hcv]; exact ⟨(_, _, _), ⟨rfl, rfl, rfl, rfl, rfl, rfl, rfl, trivial⟩, (by repeat (first | assumption | exact Ext.refl _ | refine Ext.alloc ?_ _ | refine Ext.drew ?_ | refine Ext.setB ?_ (by first | omega | (simp only [size_alloc, size_setB, size_drew]; omega)) _ | refine Ext.trans ?_ (by assumption))), Hb.mk (Hb.h (by repeat (first | assumption | exact Hb.newY _ _ | refine Hb.alloc ?_ | refine Hb.drew ?_ | refine Hb.ext (by assumption) ?_ | exact Hb.setSameL (by first | omega | (simp only [size_alloc, size_setB, size_drew]; omega)) | exact Hb.setSame (by assumption) | refine Hb.set (by first | omega | (simp only [size_alloc, size_setB, size_drew]; omega)) ?_ ))), (by first | exact NN.nil _ | assumption | exact NN.ext (by assumption) (by repeat (first | assumption | exact Ext.refl _ | refine Ext.alloc ?_ _ | refine Ext.drew ?_ | refine Ext.setB ?_ (by first | omega | (simp only [size_alloc, size_setB, size_drew]; omega)) _ | refine Ext.trans ?_ (by assumption))))⟩) | (have hcv : ycallv f o = 0 := (by unfold ycallv; rw [if_neg (by omega)]); rw [hcv]; exact ⟨(none, 0, 0), ⟨rfl, rfl, rfl, rfl, rfl, rfl, rfl, trivial⟩, (by repeat (first | assumption | exact Ext.refl _ | refine Ext.alloc ?_ _ | refine Ext.drew ?_ | refine Ext.setB ?_ (by first | omega | (simp only [size_alloc, size_setB, size_drew]; omega)) _ | refine Ext.trans ?_ (by assumption))), Hb.mk (Hb.h (by repeat (first | assumption | exact Hb.newY _ _ | refine Hb.alloc ?_ | refine Hb.drew ?_ | refine Hb.ext (by assumption) ?_ | exact Hb.setSameL (by first | omega | (simp only [size_alloc, size_setB, size_drew]; omega)) | exact Hb.setSame (by assumption) | refine Hb.set (by first | omega | (simp only [size_alloc, size_setB, size_drew]; omega)) ?_ ))), NN.nil _⟩)
  · rintro ρ7 w7 ⟨s11, hFr7, hE7, hb107, hN11⟩
    refine W_env _ hFr7 ?_
    have hz7 := hE7.1
    have hb10l7 := hb107.lt
    refine W_seq ?_
    refine W_region rfl ?_
    refine WO_p (PS_move_int rfl) ?_
    refine WO_p (PS_sub_i64n rfl rfl (by omega) (by omega)) ?_
    refine WO_p (PS_assign_int rfl) ?_
    refine WO_nil ?_
    refine thn_normal ?_
    refine W_seqJ (fun ρ w' => ∃ (b13 : Nat) (s46 : SV), Fr [(0, .pointer (some ⟨C, 0, none⟩)), (1, .pointer (some ⟨F, rest.length * 60, none⟩)), (2, .int .u8 o), (6, .int .i64 (tk : Int)), (9, .slice s9.1 s9.2.1 s9.2.2), (10, .pointer (some ⟨b10, 0, none⟩)), (11, .slice s11.1 s11.2.1 s11.2.2), (12, .int .i64 ((tk - 4 : Nat) : Int)), (13, .pointer (some ⟨b13, 0, none⟩))] ρ ∧ Ext w3 w' ∧ w3.heap.size ≤ b13 ∧ b13 ≠ b10 ∧ Hb w' b10 (.cells (ic .u8 (yaddr (yarg f 1))) 25 (0, 0)) ∧ Hb w' b13 (.cells (encYF (kYF 2 f.statY (none, 0, 0) s46 (none, 0, 0) (yaddr (yarg f 1)) f.self)).toArray 121 (0, 0)) ∧ NN w' s11 (ycallv f o) ∧ NN w' s46 (ycallv f o)) ?_ ?_
    · skip
      refine W_drawF [false, false, false, false, false, true, false, false, false, false, false, false, true, false] [12] [0, 1, 2, 3, 4, 5, 6, 7, 8, 9, 10, 11, 13] hmix (by kernel_rfl) rfl rfl rfl ?_
      refine F_q (i := 0) rfl (by kernel_rfl) ?_
      refine WH_p (PS_move_ptr rfl) rfl ?_
      refine WH_nil ?_
      refine F_q (i := 1) rfl (by kernel_rfl) ?_
      refine WH_p (PS_nilCheck rfl) rfl ?_
      refine WH_nil ?_
      refine F_q (i := 2) rfl (by kernel_rfl) ?_
      refine WH_p (PS_fieldAddr 2 Hvac.runUnderlying121 rfl Hvac.sizeOf4 rfl rfl) rfl ?_
      refine WH_nil ?_
      refine F_q (i := 3) rfl (by kernel_rfl) ?_
      refine WH_load (.bool _) Hvac.isAgg4 rfl (Hb.h (by repeat (first | assumption | exact Hb.newY _ _ | refine Hb.alloc ?_ | refine Hb.drew ?_ | refine Hb.ext (by assumption) ?_ | exact Hb.setSameL (by first | omega | (simp only [size_alloc, size_setB, size_drew]; omega)) | exact Hb.setSame (by assumption) | refine Hb.set (by first | omega | (simp only [size_alloc, size_setB, size_drew]; omega)) ?_ ))) (Ce.h (by first | assumption | exact ⟨rfl⟩)) ?_
      refine WH_nil ?_
      refine F_q (i := 4) rfl (by kernel_rfl) ?_
      refine WH_p (PS_move_slice rfl) rfl ?_
      refine WH_nil ?_
      refine F_fork1 (i := 5) rfl rfl ?_ ?_
      · refine WH_call Hvac.call79 (by rfl) (Ret.mono (nNorm_spec (OmB.ext hO (by repeat (first | assumption | exact Ext.refl _ | refine Ext.alloc ?_ _ | refine Ext.drew ?_ | refine Ext.setB ?_ (by first | omega | (simp only [size_alloc, size_setB, size_drew]; omega)) _ | exact Ext.trans (by assumption) (by assumption) | refine Ext.trans ?_ (by assumption)))) (by first | exact NN.nil _ | assumption | exact NN.ext (by assumption) (by repeat (first | assumption | exact Ext.refl _ | refine Ext.alloc ?_ _ | refine Ext.drew ?_ | refine Ext.setB ?_ (by first | omega | (simp only [size_alloc, size_setB, size_drew]; omega)) _ | exact Ext.trans (by assumption) (by assumption) | refine Ext.trans ?_ (by assumption)))) (by first | assumption | omega | (rw [sz_zero]; omega))) ?_)
        rintro _ w79_13 ⟨hE79_13, s46, rfl, hN46⟩
        refine ⟨fun _ => (by repeat (first | assumption | exact Ext.refl _ | refine Ext.alloc ?_ _ | refine Ext.drew ?_ | refine Ext.setB ?_ (by first | omega | (simp only [size_alloc, size_setB, size_drew]; omega)) _ | exact Ext.trans (by assumption) (by assumption) | refine Ext.trans ?_ (by assumption))), ?_⟩
        have hz79_13 := hE79_13.1
        try simp only [size_alloc, size_setB, size_drew] at hz79_13
        refine WH_nil ?_
        refine F_q (i := 6) rfl (by kernel_rfl) ?_
        refine WH_loadA _ Hvac.isAgg25 Hvac.sizeOf25 rfl (Hb.h (by repeat (first | assumption | exact Hb.newY _ _ | refine Hb.alloc ?_ | refine Hb.drew ?_ | refine Hb.ext (by assumption) ?_ | exact Hb.setSameL (by first | omega | (simp only [size_alloc, size_setB, size_drew]; omega)) | exact Hb.setSame (by assumption) | refine Hb.set (by first | omega | (simp only [size_alloc, size_setB, size_drew]; omega)) ?_ ))) (by first | omega | assumption | rfl | decide | exact Nat.le_refl _ | (simp only [size_ic, Value.cells]; omega) | (simp [encWs]; done) | (simp; omega) | simp | exact encYA_sz (by assumption) | exact encYT_sz (by assumption) | exact encYM_sz (by assumption)) (Xt.h (by first | assumption | exact Xt.whole rfl rfl | exact Xt.whole rfl (by assumption) | exact Xt.whole rfl (by simp only [size_ic, Value.cells]; omega) | exact ⟨rfl⟩)) ?_
        refine WH_nil ?_
        refine F_q (i := 7) rfl (by kernel_rfl) ?_
        refine WH_p (PS_move_ptr rfl) rfl ?_
        refine WH_nil ?_
        refine F_q (i := 8) rfl (by kernel_rfl) ?_
        refine WH_p (PS_nilCheck rfl) rfl ?_
        refine WH_nil ?_
        refine F_q (i := 9) rfl (by kernel_rfl) ?_
        refine WH_p (PS_fieldAddr 12 Hvac.runUnderlying121 rfl Hvac.sizeOf25 rfl rfl) rfl ?_
        refine WH_nil ?_
        refine F_q (i := 10) rfl (by kernel_rfl) ?_
        refine WH_loadA _ Hvac.isAgg25 Hvac.sizeOf25 rfl (Hb.h (by repeat (first | assumption | exact Hb.newY _ _ | refine Hb.alloc ?_ | refine Hb.drew ?_ | refine Hb.ext (by assumption) ?_ | exact Hb.setSameL (by first | omega | (simp only [size_alloc, size_setB, size_drew]; omega)) | exact Hb.setSame (by assumption) | refine Hb.set (by first | omega | (simp only [size_alloc, size_setB, size_drew]; omega)) ?_ ))) (by first | omega | assumption | rfl | decide | exact Nat.le_refl _ | (simp only [size_ic, Value.cells]; omega) | (simp [encWs]; done) | (simp; omega) | simp | exact encYA_sz (by assumption) | exact encYT_sz (by assumption) | exact encYM_sz (by assumption)) (Xt.h (by first | assumption | exact Xt.whole rfl rfl | exact Xt.whole rfl (by assumption) | exact Xt.whole rfl (by simp only [size_ic, Value.cells]; omega) | exact ⟨rfl⟩)) ?_
        refine WH_nil ?_
        refine F_q (i := 11) rfl (by kernel_rfl) ?_
        refine WH_p (PS_b121_0_2_5_12_13 (k := 2) rfl rfl rfl rfl hAl rfl hsbl) rfl ?_
        rw [show ((s46.1, s46.2.1, s46.2.2) : SV) = s46 from rfl]
        have hszk := encYF_sz (x := kYF 2 f.statY (none, 0, 0) s46 (none, 0, 0) (yaddr (yarg f 1)) f.self) hAl hsbl
        have honek := one_YF (kYF 2 f.statY (none, 0, 0) s46 (none, 0, 0) (yaddr (yarg f 1)) f.self)
        refine WH_nil ?_
        refine F_fork1B (i := 13) (by kernel_rfl) rfl ?_
        · refine WH_allocG Hvac.zeroValue121 ?_
          intro b13 v13 hg13 hE13 hH13 hl13
          try simp only [size_alloc, size_setB, size_drew] at hg13
          have hzz13 := hE13.1
          try simp only [size_alloc, size_setB, size_drew] at hzz13
          replace hH13 : Hb v13 b13 (.cells ((encYF fr0).toArray) 121 (0, 0)) := hH13
          refine ⟨fun _ => (by repeat (first | assumption | exact Ext.refl _ | refine Ext.alloc ?_ _ | refine Ext.drew ?_ | refine Ext.setB ?_ (by first | omega | (simp only [size_alloc, size_setB, size_drew]; omega)) _ | exact Ext.trans (by assumption) (by assumption) | refine Ext.trans ?_ (by assumption))), ?_⟩
          refine WH_nil ?_
          refine F_q (i := 13) rfl (by kernel_rfl) ?_
          first | refine WH_storeW Hvac.sizeOf121 rfl (v := .agg _) rfl (Hb.h (by repeat (first | assumption | exact Hb.newY _ _ | refine Hb.alloc ?_ | refine Hb.drew ?_ | refine Hb.ext (by assumption) ?_ | exact Hb.setSameL (by first | omega | (simp only [size_alloc, size_setB, size_drew]; omega)) | exact Hb.setSame (by assumption) | refine Hb.set (by first | omega | (simp only [size_alloc, size_setB, size_drew]; omega)) ?_ ))) rfl (by first | omega | assumption | rfl | decide | exact Nat.le_refl _ | (simp only [size_ic, Value.cells]; omega) | (simp [encWs]; done) | (simp; omega) | simp | exact encYA_sz (by assumption) | exact encYT_sz (by assumption) | exact encYM_sz (by assumption)) (by first | omega | assumption | rfl | decide | exact Nat.le_refl _ | (simp only [size_ic, Value.cells]; omega) | (simp [encWs]; done) | (simp; omega) | simp | exact encYA_sz (by assumption) | exact encYT_sz (by assumption) | exact encYM_sz (by assumption)) (by first | exact oneCell_ic | assumption | exact one_Ws2 _ | exact one_YA2 _ | exact one_YSl2 _ | exact one_YM2 _ | exact one_YT2 _ | exact one_L2 _) (fun h => by cases h) ?_ | refine WH_store Hvac.sizeOf121 rfl (v := .agg _) rfl (Hb.h (by repeat (first | assumption | exact Hb.newY _ _ | refine Hb.alloc ?_ | refine Hb.drew ?_ | refine Hb.ext (by assumption) ?_ | exact Hb.setSameL (by first | omega | (simp only [size_alloc, size_setB, size_drew]; omega)) | exact Hb.setSame (by assumption) | refine Hb.set (by first | omega | (simp only [size_alloc, size_setB, size_drew]; omega)) ?_ ))) (by first | omega | assumption | rfl | decide | exact Nat.le_refl _ | (simp only [size_ic, Value.cells]; omega) | (simp [encWs]; done) | (simp; omega) | simp | exact encYA_sz (by assumption) | exact encYT_sz (by assumption) | exact encYM_sz (by assumption)) (by first | omega | assumption | rfl | decide | exact Nat.le_refl _ | (simp only [size_ic, Value.cells]; omega) | (simp [encWs]; done) | (simp; omega) | simp | exact encYA_sz (by assumption) | exact encYT_sz (by assumption) | exact encYM_sz (by assumption)) (by first | exact oneCell_ic | assumption | exact one_Ws2 _ | exact one_YA2 _ | exact one_YSl2 _ | exact one_YM2 _ | exact one_YT2 _ | exact one_L2 _) (fun h => by cases h) ?_
          refine WH_nil ?_
          refine F_end ?_
          refine thn_normal ?_
          first | exact ⟨b13, s46, ⟨rfl, rfl, rfl, rfl, rfl, rfl, rfl, congrArg (Value.int .i64) (by omega), rfl, trivial⟩, (by repeat (first | assumption | exact Ext.refl _ | refine Ext.alloc ?_ _ | refine Ext.drew ?_ | refine Ext.setB ?_ (by first | omega | (simp only [size_alloc, size_setB, size_drew]; omega)) _ | refine Ext.trans ?_ (by assumption))), by omega, by omega, Hb.mk (Hb.h (by repeat (first | assumption | exact Hb.newY _ _ | refine Hb.alloc ?_ | refine Hb.drew ?_ | refine Hb.ext (by assumption) ?_ | exact Hb.setSameL (by first | omega | (simp only [size_alloc, size_setB, size_drew]; omega)) | exact Hb.setSame (by assumption) | refine Hb.set (by first | omega | (simp only [size_alloc, size_setB, size_drew]; omega)) ?_ ))), Hb.mk (Hb.h (by repeat (first | assumption | exact Hb.newY _ _ | refine Hb.alloc ?_ | refine Hb.drew ?_ | refine Hb.ext (by assumption) ?_ | exact Hb.setSameL (by first | omega | (simp only [size_alloc, size_setB, size_drew]; omega)) | exact Hb.setSame (by assumption) | refine Hb.set (by first | omega | (simp only [size_alloc, size_setB, size_drew]; omega)) ?_ ))), NN.ext hN11 (by repeat (first | assumption | exact Ext.refl _ | refine Ext.alloc ?_ _ | refine Ext.drew ?_ | refine Ext.setB ?_ (by first | omega | (simp only [size_alloc, size_setB, size_drew]; omega)) _ | refine Ext.trans ?_ (by assumption))), NN.b121 hN46 (Hb.mk (Hb.h (by repeat (first | assumption | exact Hb.newY _ _ | refine Hb.alloc ?_ | refine Hb.drew ?_ | refine Hb.ext (by assumption) ?_ | exact Hb.setSameL (by first | omega | (simp only [size_alloc, size_setB, size_drew]; omega)) | exact Hb.setSame (by assumption) | refine Hb.set (by first | omega | (simp only [size_alloc, size_setB, size_drew]; omega)) ?_ ))))⟩ | exact ⟨b13, s46, ⟨rfl, rfl, rfl, rfl, rfl, rfl, rfl, congrArg (Value.int .i64) (by omega), rfl, trivial⟩, (by repeat (first | assumption | exact Ext.refl _ | refine Ext.alloc ?_ _ | refine Ext.drew ?_ | refine Ext.setB ?_ (by first | omega | (simp only [size_alloc, size_setB, size_drew]; omega)) _ | refine Ext.trans ?_ (by assumption))), by omega, by omega, Hb.mk (Hb.h (by repeat (first | assumption | exact Hb.newY _ _ | refine Hb.alloc ?_ | refine Hb.drew ?_ | refine Hb.ext (by assumption) ?_ | exact Hb.setSameL (by first | omega | (simp only [size_alloc, size_setB, size_drew]; omega)) | exact Hb.setSame (by assumption) | refine Hb.set (by first | omega | (simp only [size_alloc, size_setB, size_drew]; omega)) ?_ ))), Hb.mk (Hb.h (by repeat (first | assumption | exact Hb.newY _ _ | refine Hb.alloc ?_ | refine Hb.drew ?_ | refine Hb.ext (by assumption) ?_ | exact Hb.setSameL (by first | omega | (simp only [size_alloc, size_setB, size_drew]; omega)) | exact Hb.setSame (by assumption) | refine Hb.set (by first | omega | (simp only [size_alloc, size_setB, size_drew]; omega)) ?_ ))), NN.ext hN11 (by repeat (first | assumption | exact Ext.refl _ | refine Ext.alloc ?_ _ | refine Ext.drew ?_ | refine Ext.setB ?_ (by first | omega | (simp only [size_alloc, size_setB, size_drew]; omega)) _ | refine Ext.trans ?_ (by assumption))), NN.ext hN46 (by repeat (first | assumption | exact Ext.refl _ | refine Ext.alloc ?_ _ | refine Ext.drew ?_ | refine Ext.setB ?_ (by first | omega | (simp only [size_alloc, size_setB, size_drew]; omega)) _ | refine Ext.trans ?_ (by assumption)))⟩
      · refine WH_allocG Hvac.zeroValue121 ?_
        intro b13 v13 hg13 hE13 hH13 hl13
        try simp only [size_alloc, size_setB, size_drew] at hg13
        have hzz13 := hE13.1
        try simp only [size_alloc, size_setB, size_drew] at hzz13
        replace hH13 : Hb v13 b13 (.cells ((encYF fr0).toArray) 121 (0, 0)) := hH13
        refine ⟨fun _ => (by repeat (first | assumption | exact Ext.refl _ | refine Ext.alloc ?_ _ | refine Ext.drew ?_ | refine Ext.setB ?_ (by first | omega | (simp only [size_alloc, size_setB, size_drew]; omega)) _ | exact Ext.trans (by assumption) (by assumption) | refine Ext.trans ?_ (by assumption))), ?_⟩
        refine WH_nil ?_
        refine F_q (i := 5) rfl (by kernel_rfl) ?_
        refine WH_call Hvac.call79 (by rfl) (Ret.mono (nNorm_spec (OmB.ext hO (by repeat (first | assumption | exact Ext.refl _ | refine Ext.alloc ?_ _ | refine Ext.drew ?_ | refine Ext.setB ?_ (by first | omega | (simp only [size_alloc, size_setB, size_drew]; omega)) _ | exact Ext.trans (by assumption) (by assumption) | refine Ext.trans ?_ (by assumption)))) (by first | exact NN.nil _ | assumption | exact NN.ext (by assumption) (by repeat (first | assumption | exact Ext.refl _ | refine Ext.alloc ?_ _ | refine Ext.drew ?_ | refine Ext.setB ?_ (by first | omega | (simp only [size_alloc, size_setB, size_drew]; omega)) _ | exact Ext.trans (by assumption) (by assumption) | refine Ext.trans ?_ (by assumption)))) (by first | assumption | omega | (rw [sz_zero]; omega))) ?_)
        rintro _ w79_14 ⟨hE79_14, s46, rfl, hN46⟩
        refine ⟨fun _ => (by repeat (first | assumption | exact Ext.refl _ | refine Ext.alloc ?_ _ | refine Ext.drew ?_ | refine Ext.setB ?_ (by first | omega | (simp only [size_alloc, size_setB, size_drew]; omega)) _ | exact Ext.trans (by assumption) (by assumption) | refine Ext.trans ?_ (by assumption))), ?_⟩
        have hz79_14 := hE79_14.1
        try simp only [size_alloc, size_setB, size_drew] at hz79_14
        refine WH_nil ?_
        refine F_q (i := 6) rfl (by kernel_rfl) ?_
        refine WH_loadA _ Hvac.isAgg25 Hvac.sizeOf25 rfl (Hb.h (by repeat (first | assumption | exact Hb.newY _ _ | refine Hb.alloc ?_ | refine Hb.drew ?_ | refine Hb.ext (by assumption) ?_ | exact Hb.setSameL (by first | omega | (simp only [size_alloc, size_setB, size_drew]; omega)) | exact Hb.setSame (by assumption) | refine Hb.set (by first | omega | (simp only [size_alloc, size_setB, size_drew]; omega)) ?_ ))) (by first | omega | assumption | rfl | decide | exact Nat.le_refl _ | (simp only [size_ic, Value.cells]; omega) | (simp [encWs]; done) | (simp; omega) | simp | exact encYA_sz (by assumption) | exact encYT_sz (by assumption) | exact encYM_sz (by assumption)) (Xt.h (by first | assumption | exact Xt.whole rfl rfl | exact Xt.whole rfl (by assumption) | exact Xt.whole rfl (by simp only [size_ic, Value.cells]; omega) | exact ⟨rfl⟩)) ?_
        refine WH_nil ?_
        refine F_q (i := 7) rfl (by kernel_rfl) ?_
        refine WH_p (PS_move_ptr rfl) rfl ?_
        refine WH_nil ?_
        refine F_q (i := 8) rfl (by kernel_rfl) ?_
        refine WH_p (PS_nilCheck rfl) rfl ?_
        refine WH_nil ?_
        refine F_q (i := 9) rfl (by kernel_rfl) ?_
        refine WH_p (PS_fieldAddr 12 Hvac.runUnderlying121 rfl Hvac.sizeOf25 rfl rfl) rfl ?_
        refine WH_nil ?_
        refine F_q (i := 10) rfl (by kernel_rfl) ?_
        refine WH_loadA _ Hvac.isAgg25 Hvac.sizeOf25 rfl (Hb.h (by repeat (first | assumption | exact Hb.newY _ _ | refine Hb.alloc ?_ | refine Hb.drew ?_ | refine Hb.ext (by assumption) ?_ | exact Hb.setSameL (by first | omega | (simp only [size_alloc, size_setB, size_drew]; omega)) | exact Hb.setSame (by assumption) | refine Hb.set (by first | omega | (simp only [size_alloc, size_setB, size_drew]; omega)) ?_ ))) (by first | omega | assumption | rfl | decide | exact Nat.le_refl _ | (simp only [size_ic, Value.cells]; omega) | (simp [encWs]; done) | (simp; omega) | simp | exact encYA_sz (by assumption) | exact encYT_sz (by assumption) | exact encYM_sz (by assumption)) (Xt.h (by first | assumption | exact Xt.whole rfl rfl | exact Xt.whole rfl (by assumption) | exact Xt.whole rfl (by simp only [size_ic, Value.cells]; omega) | exact ⟨rfl⟩)) ?_
        refine WH_nil ?_
        refine F_q (i := 11) rfl (by kernel_rfl) ?_
        refine WH_p (PS_b121_0_2_5_12_13 (k := 2) rfl rfl rfl rfl hAl rfl hsbl) rfl ?_
        rw [show ((s46.1, s46.2.1, s46.2.2) : SV) = s46 from rfl]
        have hszk := encYF_sz (x := kYF 2 f.statY (none, 0, 0) s46 (none, 0, 0) (yaddr (yarg f 1)) f.self) hAl hsbl
        have honek := one_YF (kYF 2 f.statY (none, 0, 0) s46 (none, 0, 0) (yaddr (yarg f 1)) f.self)
        refine WH_nil ?_
        refine F_q (i := 13) rfl (by kernel_rfl) ?_
        first | refine WH_storeW Hvac.sizeOf121 rfl (v := .agg _) rfl (Hb.h (by repeat (first | assumption | exact Hb.newY _ _ | refine Hb.alloc ?_ | refine Hb.drew ?_ | refine Hb.ext (by assumption) ?_ | exact Hb.setSameL (by first | omega | (simp only [size_alloc, size_setB, size_drew]; omega)) | exact Hb.setSame (by assumption) | refine Hb.set (by first | omega | (simp only [size_alloc, size_setB, size_drew]; omega)) ?_ ))) rfl (by first | omega | assumption | rfl | decide | exact Nat.le_refl _ | (simp only [size_ic, Value.cells]; omega) | (simp [encWs]; done) | (simp; omega) | simp | exact encYA_sz (by assumption) | exact encYT_sz (by assumption) | exact encYM_sz (by assumption)) (by first | omega | assumption | rfl | decide | exact Nat.le_refl _ | (simp only [size_ic, Value.cells]; omega) | (simp [encWs]; done) | (simp; omega) | simp | exact encYA_sz (by assumption) | exact encYT_sz (by assumption) | exact encYM_sz (by assumption)) (by first | exact oneCell_ic | assumption | exact one_Ws2 _ | exact one_YA2 _ | exact one_YSl2 _ | exact one_YM2 _ | exact one_YT2 _ | exact one_L2 _) (fun h => by cases h) ?_ | refine WH_store Hvac.sizeOf121 rfl (v := .agg _) rfl (Hb.h (by repeat (first | assumption | exact Hb.newY _ _ | refine Hb.alloc ?_ | refine Hb.drew ?_ | refine Hb.ext (by assumption) ?_ | exact Hb.setSameL (by first | omega | (simp only [size_alloc, size_setB, size_drew]; omega)) | exact Hb.setSame (by assumption) | refine Hb.set (by first | omega | (simp only [size_alloc, size_setB, size_drew]; omega)) ?_ ))) (by first | omega | assumption | rfl | decide | exact Nat.le_refl _ | (simp only [size_ic, Value.cells]; omega) | (simp [encWs]; done) | (simp; omega) | simp | exact encYA_sz (by assumption) | exact encYT_sz (by assumption) | exact encYM_sz (by assumption)) (by first | omega | assumption | rfl | decide | exact Nat.le_refl _ | (simp only [size_ic, Value.cells]; omega) | (simp [encWs]; done) | (simp; omega) | simp | exact encYA_sz (by assumption) | exact encYT_sz (by assumption) | exact encYM_sz (by assumption)) (by first | exact oneCell_ic | assumption | exact one_Ws2 _ | exact one_YA2 _ | exact one_YSl2 _ | exact one_YM2 _ | exact one_YT2 _ | exact one_L2 _) (fun h => by cases h) ?_
        refine WH_nil ?_
        refine F_end ?_
        refine thn_normal ?_
        first | exact ⟨b13, s46, ⟨rfl, rfl, rfl, rfl, rfl, rfl, rfl, congrArg (Value.int .i64) (by omega), rfl, trivial⟩, (by repeat (first | assumption | exact Ext.refl _ | refine Ext.alloc ?_ _ | refine Ext.drew ?_ | refine Ext.setB ?_ (by first | omega | (simp only [size_alloc, size_setB, size_drew]; omega)) _ | refine Ext.trans ?_ (by assumption))), by omega, by omega, Hb.mk (Hb.h (by repeat (first | assumption | exact Hb.newY _ _ | refine Hb.alloc ?_ | refine Hb.drew ?_ | refine Hb.ext (by assumption) ?_ | exact Hb.setSameL (by first | omega | (simp only [size_alloc, size_setB, size_drew]; omega)) | exact Hb.setSame (by assumption) | refine Hb.set (by first | omega | (simp only [size_alloc, size_setB, size_drew]; omega)) ?_ ))), Hb.mk (Hb.h (by repeat (first | assumption | exact Hb.newY _ _ | refine Hb.alloc ?_ | refine Hb.drew ?_ | refine Hb.ext (by assumption) ?_ | exact Hb.setSameL (by first | omega | (simp only [size_alloc, size_setB, size_drew]; omega)) | exact Hb.setSame (by assumption) | refine Hb.set (by first | omega | (simp only [size_alloc, size_setB, size_drew]; omega)) ?_ ))), NN.ext hN11 (by repeat (first | assumption | exact Ext.refl _ | refine Ext.alloc ?_ _ | refine Ext.drew ?_ | refine Ext.setB ?_ (by first | omega | (simp only [size_alloc, size_setB, size_drew]; omega)) _ | refine Ext.trans ?_ (by assumption))), NN.b121 hN46 (Hb.mk (Hb.h (by repeat (first | assumption | exact Hb.newY _ _ | refine Hb.alloc ?_ | refine Hb.drew ?_ | refine Hb.ext (by assumption) ?_ | exact Hb.setSameL (by first | omega | (simp only [size_alloc, size_setB, size_drew]; omega)) | exact Hb.setSame (by assumption) | refine Hb.set (by first | omega | (simp only [size_alloc, size_setB, size_drew]; omega)) ?_ ))))⟩ | exact ⟨b13, s46, ⟨rfl, rfl, rfl, rfl, rfl, rfl, rfl, congrArg (Value.int .i64) (by omega), rfl, trivial⟩, (by repeat (first | assumption | exact Ext.refl _ | refine Ext.alloc ?_ _ | refine Ext.drew ?_ | refine Ext.setB ?_ (by first | omega | (simp only [size_alloc, size_setB, size_drew]; omega)) _ | refine Ext.trans ?_ (by assumption))), by omega, by omega, Hb.mk (Hb.h (by repeat (first | assumption | exact Hb.newY _ _ | refine Hb.alloc ?_ | refine Hb.drew ?_ | refine Hb.ext (by assumption) ?_ | exact Hb.setSameL (by first | omega | (simp only [size_alloc, size_setB, size_drew]; omega)) | exact Hb.setSame (by assumption) | refine Hb.set (by first | omega | (simp only [size_alloc, size_setB, size_drew]; omega)) ?_ ))), Hb.mk (Hb.h (by repeat (first | assumption | exact Hb.newY _ _ | refine Hb.alloc ?_ | refine Hb.drew ?_ | refine Hb.ext (by assumption) ?_ | exact Hb.setSameL (by first | omega | (simp only [size_alloc, size_setB, size_drew]; omega)) | exact Hb.setSame (by assumption) | refine Hb.set (by first | omega | (simp only [size_alloc, size_setB, size_drew]; omega)) ?_ ))), NN.ext hN11 (by repeat (first | assumption | exact Ext.refl _ | refine Ext.alloc ?_ _ | refine Ext.drew ?_ | refine Ext.setB ?_ (by first | omega | (simp only [size_alloc, size_setB, size_drew]; omega)) _ | refine Ext.trans ?_ (by assumption))), NN.ext hN46 (by repeat (first | assumption | exact Ext.refl _ | refine Ext.alloc ?_ _ | refine Ext.drew ?_ | refine Ext.setB ?_ (by first | omega | (simp only [size_alloc, size_setB, size_drew]; omega)) _ | refine Ext.trans ?_ (by assumption)))⟩
    · rintro ρ9 w9 ⟨b13, s46, hFr9, hE9, hg13, hne13, hb109, hb139, hN119, hN469⟩
      refine W_env _ hFr9 ?_
      have hz9 := hE9.1
      have hb13l9 := hb139.lt
      have hb10l9 := hb109.lt
      have hszk := encYF_sz (x := kYF 2 f.statY (none, 0, 0) s46 (none, 0, 0) (yaddr (yarg f 1)) f.self) hAl hsbl
      refine W_seqJ (fun ρ w' => ∃ (xch : YFr), Fr [(0, .pointer (some ⟨C, 0, none⟩)), (1, .pointer (some ⟨F, rest.length * 60, none⟩)), (6, .int .i64 (tk : Int)), (9, .slice s9.1 s9.2.1 s9.2.2), (10, .pointer (some ⟨b10, 0, none⟩)), (11, .slice s11.1 s11.2.1 s11.2.2), (12, .int .i64 ((tk - 4 : Nat) : Int)), (13, .pointer (some ⟨b13, 0, none⟩))] ρ ∧ Ext w3 w' ∧ Hb w' b10 (.cells (ic .u8 (yaddr (yarg f 1))) 25 (0, 0)) ∧ Hb w' b13 (.cells (encYF xch).toArray 121 (0, 0)) ∧ NN w' s11 (ycallv f o) ∧ FrR w' xch (ycch f o) ∧ xch.mem = (none, 0, 0)) ?_ ?_
      · skip
        refine W_seq ?_
        refine W_region rfl ?_
        refine WO_p (PS_move_int rfl) ?_
        refine WO_nil ?_
        refine thn_normal ?_
        refine W_block ?_
        refine W_seq ?_
        refine W_region rfl ?_
        refine WO_p (PS_eql rfl rfl) ?_
        refine WO_p (PS_assign_bool rfl) ?_
        refine WO_nil ?_
        refine thn_normal ?_
        refine W_if rfl (fun hb17 => ?_) (fun hb17 => ?_)
        · have hb17p := hb17.h; try simp only [al_ete, al_dfn, Bool.not_eq_true', Bool.not_eq_false', al_ne, Bool.not_not, al_nn] at hb17p
          have ho5 : o = 242 := by omega
          refine W_seq ?_
          refine W_region rfl ?_
          refine WO_p (PS_fieldAddr 0 Hvac.runUnderlying121 rfl Hvac.sizeOf5 rfl rfl) ?_
          refine WO_store1 Hvac.sizeOf5 rfl (v := .int _ _) rfl (Hb.h (by repeat (first | assumption | exact Hb.newY _ _ | refine Hb.alloc ?_ | refine Hb.drew ?_ | refine Hb.ext (by assumption) ?_ | exact Hb.setSameL (by first | omega | (simp only [size_alloc, size_setB, size_drew]; omega)) | exact Hb.setSame (by assumption) | refine Hb.set (by first | omega | (simp only [size_alloc, size_setB, size_drew]; omega)) ?_ ))) rfl (by first | omega | (simp only [Value.cells]; omega) | (rw [kYF_sz (by assumption) (by assumption)]; omega)) rfl ?_
          try rw [show ∀ a, (Value.agg a).cells = a from fun _ => rfl]
          rw [kYF_k 7 7 rfl]
          try rw [setB_setB]
          refine WO_nil ?_
          refine thn_normal ?_
          refine W_region rfl ?_
          refine WO_p (PS_move_ptr rfl) ?_
          refine WO_p (PS_nilCheck rfl) ?_
          refine WO_p (PS_fieldAddr 12 Hvac.runUnderlying121 rfl Hvac.sizeOf25 rfl rfl) ?_
          refine WO_loadA _ Hvac.isAgg25 Hvac.sizeOf25 rfl (Hb.h (by repeat (first | assumption | exact Hb.newY _ _ | refine Hb.alloc ?_ | refine Hb.drew ?_ | refine Hb.ext (by assumption) ?_ | exact Hb.setSameL (by first | omega | (simp only [size_alloc, size_setB, size_drew]; omega)) | exact Hb.setSame (by assumption) | refine Hb.set (by first | omega | (simp only [size_alloc, size_setB, size_drew]; omega)) ?_ ))) (by first | omega | assumption | rfl | decide | exact Nat.le_refl _ | (simp only [size_ic, Value.cells]; omega) | (simp [encWs]; done) | (simp; omega) | simp | exact encYA_sz (by assumption) | exact encYT_sz (by assumption) | exact encYM_sz (by assumption)) (Xt.h (by first | assumption | exact Xt.whole rfl rfl | exact Xt.whole rfl (by assumption) | exact Xt.whole rfl (by simp only [size_ic, Value.cells]; omega) | exact ⟨rfl⟩)) ?_
          refine WO_p (PS_fieldAddr 12 Hvac.runUnderlying121 rfl Hvac.sizeOf25 rfl rfl) ?_
          refine WO_store Hvac.sizeOf25 rfl (v := .agg (ic .u8 f.self)) rfl (Hb.h (by repeat (first | assumption | exact Hb.newY _ _ | refine Hb.alloc ?_ | refine Hb.drew ?_ | refine Hb.ext (by assumption) ?_ | exact Hb.setSameL (by first | omega | (simp only [size_alloc, size_setB, size_drew]; omega)) | exact Hb.setSame (by assumption) | refine Hb.set (by first | omega | (simp only [size_alloc, size_setB, size_drew]; omega)) ?_ ))) (by show (ic .u8 f.self).size = 20; rw [size_ic]; assumption) (by first | omega | (simp only [Value.cells]; omega) | (rw [kYF_sz (by assumption) (by assumption)]; omega)) (by intro u hu; exact oneCell_ic u hu) ?_
          try rw [show ∀ a, (Value.agg a).cells = a from fun _ => rfl]
          rw [kYF_A hAl hsbl]
          try rw [setB_setB]
          refine WO_nil ?_
          refine inBlk_normal ?_
          refine thn_normal ?_
          subst ho5; exact ⟨kYF 7 f.statY (none, 0, 0) s46 (none, 0, 0) f.self f.self, ⟨rfl, rfl, rfl, rfl, rfl, rfl, rfl, rfl, trivial⟩, (by repeat (first | assumption | exact Ext.refl _ | refine Ext.alloc ?_ _ | refine Ext.drew ?_ | refine Ext.setB ?_ (by first | omega | (simp only [size_alloc, size_setB, size_drew]; omega)) _ | refine Ext.trans ?_ (by assumption))), Hb.mk (Hb.h (by repeat (first | assumption | exact Hb.newY _ _ | refine Hb.alloc ?_ | refine Hb.drew ?_ | refine Hb.ext (by assumption) ?_ | exact Hb.setSameL (by first | omega | (simp only [size_alloc, size_setB, size_drew]; omega)) | exact Hb.setSame (by assumption) | refine Hb.set (by first | omega | (simp only [size_alloc, size_setB, size_drew]; omega)) ?_ ))), Hb.mk (Hb.h (by repeat (first | assumption | exact Hb.newY _ _ | refine Hb.alloc ?_ | refine Hb.drew ?_ | refine Hb.ext (by assumption) ?_ | exact Hb.setSameL (by first | omega | (simp only [size_alloc, size_setB, size_drew]; omega)) | exact Hb.setSame (by assumption) | refine Hb.set (by first | omega | (simp only [size_alloc, size_setB, size_drew]; omega)) ?_ ))), (by first | exact hN119 | exact NN.b121 hN119 hb139), (by rw [ycch_242]; exact kYF_rel (NN.nil _) (by first | exact NN.ext hNv3 (by repeat (first | assumption | exact Ext.refl _ | refine Ext.alloc ?_ _ | refine Ext.drew ?_ | refine Ext.setB ?_ (by first | omega | (simp only [size_alloc, size_setB, size_drew]; omega)) _ | refine Ext.trans ?_ (by assumption))) | exact hN469 | exact NN.b121 hN469 hb139) (PB.nil _) hFR.sb hFR.sb), rfl⟩
        · have hb17p := hb17.h; try simp only [al_ete, al_dfn, Bool.not_eq_true', Bool.not_eq_false', al_ne, Bool.not_not, al_nn] at hb17p
          refine W_seq ?_
          refine W_region rfl ?_
          refine WO_p (PS_eql rfl rfl) ?_
          refine WO_p (PS_assign_bool rfl) ?_
          refine WO_nil ?_
          refine thn_normal ?_
          refine W_if rfl (fun hb19 => ?_) (fun hb19 => ?_)
          · have hb19p := hb19.h; try simp only [al_ete, al_dfn, Bool.not_eq_true', Bool.not_eq_false', al_ne, Bool.not_not, al_nn] at hb19p
            have ho5 : o = 244 := by omega
            refine W_seq ?_
            refine W_region rfl ?_
            refine WO_p (PS_fieldAddr 0 Hvac.runUnderlying121 rfl Hvac.sizeOf5 rfl rfl) ?_
            refine WO_store1 Hvac.sizeOf5 rfl (v := .int _ _) rfl (Hb.h (by repeat (first | assumption | exact Hb.newY _ _ | refine Hb.alloc ?_ | refine Hb.drew ?_ | refine Hb.ext (by assumption) ?_ | exact Hb.setSameL (by first | omega | (simp only [size_alloc, size_setB, size_drew]; omega)) | exact Hb.setSame (by assumption) | refine Hb.set (by first | omega | (simp only [size_alloc, size_setB, size_drew]; omega)) ?_ ))) rfl (by first | omega | (simp only [Value.cells]; omega) | (rw [kYF_sz (by assumption) (by assumption)]; omega)) rfl ?_
            try rw [show ∀ a, (Value.agg a).cells = a from fun _ => rfl]
            rw [kYF_k 3 3 rfl]
            try rw [setB_setB]
            refine WO_nil ?_
            refine thn_normal ?_
            refine W_seq ?_
            refine W_region rfl ?_
            refine WO_p (PS_move_ptr rfl) ?_
            refine WO_p (PS_nilCheck rfl) ?_
            refine WO_p (PS_fieldAddr 5 Hvac.runUnderlying121 rfl Hvac.sizeOf92 rfl rfl) ?_
            refine WO_load (.slice _ _ _) Hvac.isAgg92 rfl (Hb.h (by repeat (first | assumption | exact Hb.newY _ _ | refine Hb.alloc ?_ | refine Hb.drew ?_ | refine Hb.ext (by assumption) ?_ | exact Hb.setSameL (by first | omega | (simp only [size_alloc, size_setB, size_drew]; omega)) | exact Hb.setSame (by assumption) | refine Hb.set (by first | omega | (simp only [size_alloc, size_setB, size_drew]; omega)) ?_ ))) (Ce.h (by first | assumption | exact ⟨rfl⟩)) ?_
            refine WO_p (PS_fieldAddr 5 Hvac.runUnderlying121 rfl Hvac.sizeOf92 rfl rfl) ?_
            refine WO_store1 Hvac.sizeOf92 rfl (v := .slice _ _ _) rfl (Hb.h (by repeat (first | assumption | exact Hb.newY _ _ | refine Hb.alloc ?_ | refine Hb.drew ?_ | refine Hb.ext (by assumption) ?_ | exact Hb.setSameL (by first | omega | (simp only [size_alloc, size_setB, size_drew]; omega)) | exact Hb.setSame (by assumption) | refine Hb.set (by first | omega | (simp only [size_alloc, size_setB, size_drew]; omega)) ?_ ))) rfl (by first | omega | (simp only [Value.cells]; omega) | (rw [kYF_sz (by assumption) (by assumption)]; omega)) rfl ?_
            try rw [show ∀ a, (Value.agg a).cells = a from fun _ => rfl]
            rw [kYF_v xf.value]
            try rw [setB_setB]
            refine WO_nil ?_
            refine thn_normal ?_
            refine W_seq ?_
            refine W_region rfl ?_
            refine WO_p (PS_move_ptr rfl) ?_
            refine WO_p (PS_nilCheck rfl) ?_
            refine WO_p (PS_fieldAddr 12 Hvac.runUnderlying121 rfl Hvac.sizeOf25 rfl rfl) ?_
            refine WO_loadA _ Hvac.isAgg25 Hvac.sizeOf25 rfl (Hb.h (by repeat (first | assumption | exact Hb.newY _ _ | refine Hb.alloc ?_ | refine Hb.drew ?_ | refine Hb.ext (by assumption) ?_ | exact Hb.setSameL (by first | omega | (simp only [size_alloc, size_setB, size_drew]; omega)) | exact Hb.setSame (by assumption) | refine Hb.set (by first | omega | (simp only [size_alloc, size_setB, size_drew]; omega)) ?_ ))) (by first | omega | assumption | rfl | decide | exact Nat.le_refl _ | (simp only [size_ic, Value.cells]; omega) | (simp [encWs]; done) | (simp; omega) | simp | exact encYA_sz (by assumption) | exact encYT_sz (by assumption) | exact encYM_sz (by assumption)) (Xt.h (by first | assumption | exact Xt.whole rfl rfl | exact Xt.whole rfl (by assumption) | exact Xt.whole rfl (by simp only [size_ic, Value.cells]; omega) | exact ⟨rfl⟩)) ?_
            refine WO_p (PS_fieldAddr 12 Hvac.runUnderlying121 rfl Hvac.sizeOf25 rfl rfl) ?_
            refine WO_store Hvac.sizeOf25 rfl (v := .agg (ic .u8 f.self)) rfl (Hb.h (by repeat (first | assumption | exact Hb.newY _ _ | refine Hb.alloc ?_ | refine Hb.drew ?_ | refine Hb.ext (by assumption) ?_ | exact Hb.setSameL (by first | omega | (simp only [size_alloc, size_setB, size_drew]; omega)) | exact Hb.setSame (by assumption) | refine Hb.set (by first | omega | (simp only [size_alloc, size_setB, size_drew]; omega)) ?_ ))) (by show (ic .u8 f.self).size = 20; rw [size_ic]; assumption) (by first | omega | (simp only [Value.cells]; omega) | (rw [kYF_sz (by assumption) (by assumption)]; omega)) (by intro u hu; exact oneCell_ic u hu) ?_
            try rw [show ∀ a, (Value.agg a).cells = a from fun _ => rfl]
            rw [kYF_A hAl hsbl]
            try rw [setB_setB]
            refine WO_nil ?_
            refine thn_normal ?_
            refine W_region rfl ?_
            refine WO_p (PS_move_ptr rfl) ?_
            refine WO_p (PS_nilCheck rfl) ?_
            refine WO_p (PS_fieldAddr 32 Hvac.runUnderlying121 rfl Hvac.sizeOf25 rfl rfl) ?_
            refine WO_loadA _ Hvac.isAgg25 Hvac.sizeOf25 rfl (Hb.h (by repeat (first | assumption | exact Hb.newY _ _ | refine Hb.alloc ?_ | refine Hb.drew ?_ | refine Hb.ext (by assumption) ?_ | exact Hb.setSameL (by first | omega | (simp only [size_alloc, size_setB, size_drew]; omega)) | exact Hb.setSame (by assumption) | refine Hb.set (by first | omega | (simp only [size_alloc, size_setB, size_drew]; omega)) ?_ ))) (by first | omega | assumption | rfl | decide | exact Nat.le_refl _ | (simp only [size_ic, Value.cells]; omega) | (simp [encWs]; done) | (simp; omega) | simp | exact encYA_sz (by assumption) | exact encYT_sz (by assumption) | exact encYM_sz (by assumption)) (Xt.h (by first | assumption | exact Xt.whole rfl rfl | exact Xt.whole rfl (by assumption) | exact Xt.whole rfl (by simp only [size_ic, Value.cells]; omega) | exact ⟨rfl⟩)) ?_
            refine WO_p (PS_fieldAddr 32 Hvac.runUnderlying121 rfl Hvac.sizeOf25 rfl rfl) ?_
            refine WO_store Hvac.sizeOf25 rfl (v := .agg (ic .u8 f.caller)) rfl (Hb.h (by repeat (first | assumption | exact Hb.newY _ _ | refine Hb.alloc ?_ | refine Hb.drew ?_ | refine Hb.ext (by assumption) ?_ | exact Hb.setSameL (by first | omega | (simp only [size_alloc, size_setB, size_drew]; omega)) | exact Hb.setSame (by assumption) | refine Hb.set (by first | omega | (simp only [size_alloc, size_setB, size_drew]; omega)) ?_ ))) (by show (ic .u8 f.caller).size = 20; rw [size_ic]; assumption) (by first | omega | (simp only [Value.cells]; omega) | (rw [kYF_sz (by assumption) (by assumption)]; omega)) (by intro u hu; exact oneCell_ic u hu) ?_
            try rw [show ∀ a, (Value.agg a).cells = a from fun _ => rfl]
            rw [kYF_B hsbl hsbl hcbl]
            try rw [setB_setB]
            refine WO_nil ?_
            refine inBlk_normal ?_
            refine thn_normal ?_
            subst ho5; exact ⟨kYF 3 f.statY (none, 0, 0) xf.value (none, 0, 0) f.self f.caller, ⟨rfl, rfl, rfl, rfl, rfl, rfl, rfl, rfl, trivial⟩, (by repeat (first | assumption | exact Ext.refl _ | refine Ext.alloc ?_ _ | refine Ext.drew ?_ | refine Ext.setB ?_ (by first | omega | (simp only [size_alloc, size_setB, size_drew]; omega)) _ | refine Ext.trans ?_ (by assumption))), Hb.mk (Hb.h (by repeat (first | assumption | exact Hb.newY _ _ | refine Hb.alloc ?_ | refine Hb.drew ?_ | refine Hb.ext (by assumption) ?_ | exact Hb.setSameL (by first | omega | (simp only [size_alloc, size_setB, size_drew]; omega)) | exact Hb.setSame (by assumption) | refine Hb.set (by first | omega | (simp only [size_alloc, size_setB, size_drew]; omega)) ?_ ))), Hb.mk (Hb.h (by repeat (first | assumption | exact Hb.newY _ _ | refine Hb.alloc ?_ | refine Hb.drew ?_ | refine Hb.ext (by assumption) ?_ | exact Hb.setSameL (by first | omega | (simp only [size_alloc, size_setB, size_drew]; omega)) | exact Hb.setSame (by assumption) | refine Hb.set (by first | omega | (simp only [size_alloc, size_setB, size_drew]; omega)) ?_ ))), (by first | exact hN119 | exact NN.b121 hN119 hb139), (by rw [ycch_244]; exact kYF_rel (NN.nil _) (by first | exact NN.ext hNv3 (by repeat (first | assumption | exact Ext.refl _ | refine Ext.alloc ?_ _ | refine Ext.drew ?_ | refine Ext.setB ?_ (by first | omega | (simp only [size_alloc, size_setB, size_drew]; omega)) _ | refine Ext.trans ?_ (by assumption))) | exact hN469 | exact NN.b121 hN469 hb139) (PB.nil _) hFR.sb hFR.cb), rfl⟩
          · have hb19p := hb19.h; try simp only [al_ete, al_dfn, Bool.not_eq_true', Bool.not_eq_false', al_ne, Bool.not_not, al_nn] at hb19p
            refine W_seq ?_
            refine W_region rfl ?_
            refine WO_p (PS_eql rfl rfl) ?_
            refine WO_p (PS_assign_bool rfl) ?_
            refine WO_nil ?_
            refine thn_normal ?_
            refine W_if rfl (fun hb21 => ?_) (fun hb21 => ?_)
            · have hb21p := hb21.h; try simp only [al_ete, al_dfn, Bool.not_eq_true', Bool.not_eq_false', al_ne, Bool.not_not, al_nn] at hb21p
              have ho5 : o = 250 := by omega
              refine W_seq ?_
              refine W_region rfl ?_
              refine WO_p (PS_fieldAddr 0 Hvac.runUnderlying121 rfl Hvac.sizeOf5 rfl rfl) ?_
              refine WO_store1 Hvac.sizeOf5 rfl (v := .int _ _) rfl (Hb.h (by repeat (first | assumption | exact Hb.newY _ _ | refine Hb.alloc ?_ | refine Hb.drew ?_ | refine Hb.ext (by assumption) ?_ | exact Hb.setSameL (by first | omega | (simp only [size_alloc, size_setB, size_drew]; omega)) | exact Hb.setSame (by assumption) | refine Hb.set (by first | omega | (simp only [size_alloc, size_setB, size_drew]; omega)) ?_ ))) rfl (by first | omega | (simp only [Value.cells]; omega) | (rw [kYF_sz (by assumption) (by assumption)]; omega)) rfl ?_
              try rw [show ∀ a, (Value.agg a).cells = a from fun _ => rfl]
              rw [kYF_k 4 4 rfl]
              try rw [setB_setB]
              refine WO_nil ?_
              refine thn_normal ?_
              refine W_region rfl ?_
              refine WO_p (PS_fieldAddr 2 Hvac.runUnderlying121 rfl Hvac.sizeOf4 rfl rfl) ?_
              refine WO_store1 Hvac.sizeOf4 rfl (v := .bool _) rfl (Hb.h (by repeat (first | assumption | exact Hb.newY _ _ | refine Hb.alloc ?_ | refine Hb.drew ?_ | refine Hb.ext (by assumption) ?_ | exact Hb.setSameL (by first | omega | (simp only [size_alloc, size_setB, size_drew]; omega)) | exact Hb.setSame (by assumption) | refine Hb.set (by first | omega | (simp only [size_alloc, size_setB, size_drew]; omega)) ?_ ))) rfl (by first | omega | (simp only [Value.cells]; omega) | (rw [kYF_sz (by assumption) (by assumption)]; omega)) rfl ?_
              try rw [show ∀ a, (Value.agg a).cells = a from fun _ => rfl]
              rw [kYF_s true]
              try rw [setB_setB]
              refine WO_nil ?_
              refine inBlk_normal ?_
              refine thn_normal ?_
              subst ho5; exact ⟨kYF 4 true (none, 0, 0) s46 (none, 0, 0) (yaddr (yarg f 1)) f.self, ⟨rfl, rfl, rfl, rfl, rfl, rfl, rfl, rfl, trivial⟩, (by repeat (first | assumption | exact Ext.refl _ | refine Ext.alloc ?_ _ | refine Ext.drew ?_ | refine Ext.setB ?_ (by first | omega | (simp only [size_alloc, size_setB, size_drew]; omega)) _ | refine Ext.trans ?_ (by assumption))), Hb.mk (Hb.h (by repeat (first | assumption | exact Hb.newY _ _ | refine Hb.alloc ?_ | refine Hb.drew ?_ | refine Hb.ext (by assumption) ?_ | exact Hb.setSameL (by first | omega | (simp only [size_alloc, size_setB, size_drew]; omega)) | exact Hb.setSame (by assumption) | refine Hb.set (by first | omega | (simp only [size_alloc, size_setB, size_drew]; omega)) ?_ ))), Hb.mk (Hb.h (by repeat (first | assumption | exact Hb.newY _ _ | refine Hb.alloc ?_ | refine Hb.drew ?_ | refine Hb.ext (by assumption) ?_ | exact Hb.setSameL (by first | omega | (simp only [size_alloc, size_setB, size_drew]; omega)) | exact Hb.setSame (by assumption) | refine Hb.set (by first | omega | (simp only [size_alloc, size_setB, size_drew]; omega)) ?_ ))), (by first | exact hN119 | exact NN.b121 hN119 hb139), (by rw [ycch_250]; exact kYF_rel (NN.nil _) (by first | exact NN.ext hNv3 (by repeat (first | assumption | exact Ext.refl _ | refine Ext.alloc ?_ _ | refine Ext.drew ?_ | refine Ext.setB ?_ (by first | omega | (simp only [size_alloc, size_setB, size_drew]; omega)) _ | refine Ext.trans ?_ (by assumption))) | exact hN469 | exact NN.b121 hN469 hb139) (PB.nil _) (yaddr_by _) hFR.sb), rfl⟩
            · have hb21p := hb21.h; try simp only [al_ete, al_dfn, Bool.not_eq_true', Bool.not_eq_false', al_ne, Bool.not_not, al_nn] at hb21p
              have ho5 : o = 241 := by omega
              refine W_skip ?_
              refine inBlk_normal ?_
              refine thn_normal ?_
              subst ho5; exact ⟨kYF 2 f.statY (none, 0, 0) s46 (none, 0, 0) (yaddr (yarg f 1)) f.self, ⟨rfl, rfl, rfl, rfl, rfl, rfl, rfl, rfl, trivial⟩, (by repeat (first | assumption | exact Ext.refl _ | refine Ext.alloc ?_ _ | refine Ext.drew ?_ | refine Ext.setB ?_ (by first | omega | (simp only [size_alloc, size_setB, size_drew]; omega)) _ | refine Ext.trans ?_ (by assumption))), Hb.mk (Hb.h (by repeat (first | assumption | exact Hb.newY _ _ | refine Hb.alloc ?_ | refine Hb.drew ?_ | refine Hb.ext (by assumption) ?_ | exact Hb.setSameL (by first | omega | (simp only [size_alloc, size_setB, size_drew]; omega)) | exact Hb.setSame (by assumption) | refine Hb.set (by first | omega | (simp only [size_alloc, size_setB, size_drew]; omega)) ?_ ))), Hb.mk (Hb.h (by repeat (first | assumption | exact Hb.newY _ _ | refine Hb.alloc ?_ | refine Hb.drew ?_ | refine Hb.ext (by assumption) ?_ | exact Hb.setSameL (by first | omega | (simp only [size_alloc, size_setB, size_drew]; omega)) | exact Hb.setSame (by assumption) | refine Hb.set (by first | omega | (simp only [size_alloc, size_setB, size_drew]; omega)) ?_ ))), (by first | exact hN119 | exact NN.b121 hN119 hb139), (by rw [ycch_241]; exact kYF_rel (NN.nil _) (by first | exact NN.ext hNv3 (by repeat (first | assumption | exact Ext.refl _ | refine Ext.alloc ?_ _ | refine Ext.drew ?_ | refine Ext.setB ?_ (by first | omega | (simp only [size_alloc, size_setB, size_drew]; omega)) _ | refine Ext.trans ?_ (by assumption))) | exact hN469 | exact NN.b121 hN469 hb139) (PB.nil _) (yaddr_by _) hFR.sb), rfl⟩
      · rintro ρ21 w21 ⟨xch, hFr21, hE21, hb1021, hb1321, hN1121, hch21, hchm⟩
        refine W_env _ hFr21 ?_
        have hz21 := hE21.1
        have hb10l21 := hb1021.lt
        have hb13l21 := hb1321.lt
        have hchs : xch.self.length = 20 := by rw [hch21.self]; exact hch21.sb.1
        have hchc : xch.caller.length = 20 := by rw [hch21.caller]; exact hch21.cb.1
        have hchz := encYF_sz hchs hchc
        refine W_seq ?_
        have hk4 := hFC.gas
        have hNg3 := hM3.rel.gas
        have hNg21 : NN w21 xf.gas f.gas := NN.ext hNg3 hE21
        have hN921 : NN w21 s9 (yarg f 0) := NN.ext hN9 hE21
        have hs90 := sz_yarg hP 0
        have hzg := hP.gas
        have hFb21 := hM3.blk.ext hE21
        have hFl21 := hFb21.lt
        refine W_region rfl ?_
        refine WO_p (PS_move_ptr rfl) ?_
        refine WO_p (PS_nilCheck rfl) ?_
        refine WO_p (PS_fieldAddr 4 Hvac.runUnderlying121 rfl Hvac.sizeOf92 rfl rfl) ?_
        refine WO_load (.slice _ _ _) Hvac.isAgg92 rfl (Hb.h (by repeat (first | assumption | exact Hb.newY _ _ | refine Hb.alloc ?_ | refine Hb.drew ?_ | refine Hb.ext (by assumption) ?_ | exact Hb.setSameL (by first | omega | (simp only [size_alloc, size_setB, size_drew]; omega)) | exact Hb.setSame (by assumption) | refine Hb.set (by first | omega | (simp only [size_alloc, size_setB, size_drew]; omega)) ?_ ))) (Ce.h (by first | assumption | exact ⟨rfl⟩)) ?_
        refine WO_p (PS_move_slice rfl) ?_
        refine WO_call Hvac.call200 (by rfl) (Ret.mono (sentGas_spec2 _ (OmB.ext hO (by repeat (first | assumption | exact Ext.refl _ | refine Ext.alloc ?_ _ | refine Ext.drew ?_ | refine Ext.setB ?_ (by first | omega | (simp only [size_alloc, size_setB, size_drew]; omega)) _ | exact Ext.trans (by assumption) (by assumption) | refine Ext.trans ?_ (by assumption)))) _ _ _ _ (by first | exact NN.nil _ | assumption | exact NN.ext (by assumption) (by repeat (first | assumption | exact Ext.refl _ | refine Ext.alloc ?_ _ | refine Ext.drew ?_ | refine Ext.setB ?_ (by first | omega | (simp only [size_alloc, size_setB, size_drew]; omega)) _ | exact Ext.trans (by assumption) (by assumption) | refine Ext.trans ?_ (by assumption)))) (by first | assumption | omega | (rw [sz_zero]; omega)) _ _ _ _ (by first | exact NN.nil _ | assumption | exact NN.ext (by assumption) (by repeat (first | assumption | exact Ext.refl _ | refine Ext.alloc ?_ _ | refine Ext.drew ?_ | refine Ext.setB ?_ (by first | omega | (simp only [size_alloc, size_setB, size_drew]; omega)) _ | exact Ext.trans (by assumption) (by assumption) | refine Ext.trans ?_ (by assumption)))) (by first | assumption | omega | (rw [sz_zero]; omega))) ?_)
        rintro _ w200_21 ⟨hE200_21, s14, rfl, hN14⟩
        have hz200_21 := hE200_21.1
        try simp only [size_alloc, size_setB, size_drew] at hz200_21
        refine WO_p (PS_assign_slice rfl) ?_
        refine WO_nil ?_
        refine thn_normal ?_
        refine W_seq ?_
        refine W_gen fun w2b hw2b => ?_
        have hE2b : Ext w21 w2b := by rw [hw2b]; exact (by repeat (first | assumption | exact Ext.refl _ | refine Ext.alloc ?_ _ | refine Ext.drew ?_ | refine Ext.setB ?_ (by first | omega | (simp only [size_alloc, size_setB, size_drew]; omega)) _ | refine Ext.trans ?_ (by assumption)))
        have hN142b : NN w2b s14 (ysent f.gas (yarg f 0)) := by rw [hw2b]; exact NN.ext hN14 (by repeat (first | assumption | exact Ext.refl _ | refine Ext.alloc ?_ _ | refine Ext.drew ?_ | refine Ext.setB ?_ (by first | omega | (simp only [size_alloc, size_setB, size_drew]; omega)) _ | refine Ext.trans ?_ (by assumption)))
        clear hw2b
        have hz2b := hE2b.1
        have hF2b := hM3.ext (hE21.trans hE2b)
        have hX2b := hX3.ext (hE21.trans hE2b)
        have hN112b := NN.ext hN1121 hE2b
        have hb102b := hb1021.ext hE2b
        have hb132b := hb1321.ext hE2b
        have hb10l2b := hb102b.lt
        have hb13l2b := hb132b.lt
        have hO2b := hX2b.omb
        have hch2b := hch21.ext hE2b
        replace hO := hO2b
        have hs14 := sz_ysent (a := yarg f 0) hgf
        have hFb2b := hF2b.blk
        have hFl2b := hFb2b.lt
        have hNg2b := hF2b.rel.gas
        refine W_region rfl ?_
        refine WO_p (PS_move_ptr rfl) ?_
        refine WO_p (PS_move_ptr rfl) ?_
        refine WO_p (PS_nilCheck rfl) ?_
        refine WO_p (PS_fieldAddr 4 Hvac.runUnderlying121 rfl Hvac.sizeOf92 rfl rfl) ?_
        refine WO_load (.slice _ _ _) Hvac.isAgg92 rfl (Hb.h (by repeat (first | assumption | exact Hb.newY _ _ | refine Hb.alloc ?_ | refine Hb.drew ?_ | refine Hb.ext (by assumption) ?_ | exact Hb.setSameL (by first | omega | (simp only [size_alloc, size_setB, size_drew]; omega)) | exact Hb.setSame (by assumption) | refine Hb.set (by first | omega | (simp only [size_alloc, size_setB, size_drew]; omega)) ?_ ))) (Ce.h (by first | assumption | exact ⟨rfl⟩)) ?_
        refine WO_p (PS_move_slice rfl) ?_
        refine WO_call Hvac.call20 (by rfl) (Ret.mono (less_spec _ (OmB.ext hO (by repeat (first | assumption | exact Ext.refl _ | refine Ext.alloc ?_ _ | refine Ext.drew ?_ | refine Ext.setB ?_ (by first | omega | (simp only [size_alloc, size_setB, size_drew]; omega)) _ | exact Ext.trans (by assumption) (by assumption) | refine Ext.trans ?_ (by assumption)))) _ _ _ _ (by first | exact NN.nil _ | assumption | exact NN.ext (by assumption) (by repeat (first | assumption | exact Ext.refl _ | refine Ext.alloc ?_ _ | refine Ext.drew ?_ | refine Ext.setB ?_ (by first | omega | (simp only [size_alloc, size_setB, size_drew]; omega)) _ | exact Ext.trans (by assumption) (by assumption) | refine Ext.trans ?_ (by assumption)))) (by first | assumption | omega | (rw [sz_zero]; omega)) _ _ _ _ (by first | exact NN.nil _ | assumption | exact NN.ext (by assumption) (by repeat (first | assumption | exact Ext.refl _ | refine Ext.alloc ?_ _ | refine Ext.drew ?_ | refine Ext.setB ?_ (by first | omega | (simp only [size_alloc, size_setB, size_drew]; omega)) _ | exact Ext.trans (by assumption) (by assumption) | refine Ext.trans ?_ (by assumption)))) (by first | assumption | omega | (rw [sz_zero]; omega))) ?_)
        rintro _ w20_22 ⟨hE20_22, s22, rfl, hN22⟩
        have hz20_22 := hE20_22.1
        try simp only [size_alloc, size_setB, size_drew] at hz20_22
        refine WO_p (PS_nilCheck rfl) ?_
        refine WO_p (PS_fieldAddr 4 Hvac.runUnderlying121 rfl Hvac.sizeOf92 rfl rfl) ?_
        refine WO_store1 Hvac.sizeOf92 rfl (v := (.slice _ _ _)) rfl (Hb.h (by repeat (first | assumption | exact Hb.newY _ _ | refine Hb.alloc ?_ | refine Hb.drew ?_ | refine Hb.ext (by assumption) ?_ | exact Hb.setSameL (by first | omega | (simp only [size_alloc, size_setB, size_drew]; omega)) | exact Hb.setSame (by assumption) | refine Hb.set (by first | omega | (simp only [size_alloc, size_setB, size_drew]; omega)) ?_ ))) rfl (by first | omega | assumption | rfl | decide | exact Nat.le_refl _ | (simp only [size_ic, Value.cells]; omega) | (simp [encWs]; done) | (simp; omega) | simp | exact encYA_sz (by assumption) | exact encYT_sz (by assumption) | exact encYM_sz (by assumption)) rfl ?_
        refine WO_nil ?_
        refine thn_normal ?_
        refine W_seq ?_
        refine W_gen fun w22 hw22 => ?_
        have hS22 := FStep.put (f' := (ycallf f)) hw22 hF2b (by repeat (first | assumption | exact Ext.refl _ | refine Ext.alloc ?_ _ | refine Ext.drew ?_ | refine Ext.setB ?_ (by first | omega | (simp only [size_alloc, size_setB, size_drew]; omega)) _ | refine Ext.trans ?_ (by assumption))) (hFC.gas_ s22) (FrR.sGas (FrR.ext hF2b.rel (by repeat (first | assumption | exact Ext.refl _ | refine Ext.alloc ?_ _ | refine Ext.drew ?_ | refine Ext.setB ?_ (by first | omega | (simp only [size_alloc, size_setB, size_drew]; omega)) _ | refine Ext.trans ?_ (by assumption)))) (by first | exact NN.nil _ | assumption | exact NN.ext (by assumption) (by repeat (first | assumption | exact Ext.refl _ | refine Ext.alloc ?_ _ | refine Ext.drew ?_ | refine Ext.setB ?_ (by first | omega | (simp only [size_alloc, size_setB, size_drew]; omega)) _ | refine Ext.trans ?_ (by assumption)))))
        have hF22 := hS22.m hFo
        have hKO22 := hS22.ko hFo
        replace hO := hO.keep hKO22
        have hFb22 := hF22.blk
        have hFC22 := hF22.fc
        have hFR22 := hF22.rel
        have hFl22 := hFb22.lt
        have hFsz22 := hFC22.size
        replace hN142b := hN142b.keep hKO22
        replace hN112b := hN112b.keep hKO22
        clear hw22
        have hX22a := hX2b.ftop (o := 0) hFp hxf hF2b hS22 rfl rfl
        have hK22 : KeepO Y w w22 := ((KeepO.mono hTa3.keep (fun b e => e ▸ hX.yc)).extR (hE21.trans hE2b)).trans (KeepO.mono hS22.keep (fun b e => e ▸ hYF)) (fun _ _ e => e)
        obtain ⟨r22, x22, hF22b, hX22, hxf22⟩ : ∃ r22 x22, FrM w22 F (rest.length * 60) r22 x22 (ycallf f) ∧ YX Y w22 C (xsWarmA x s3) (ycall1 y f) (xs.set rest.length x22) (rest ++ [ycallf f]) ∧ (xs.set rest.length x22)[rest.length]? = some x22 := ⟨_, _, hF22, hX22a, List.getElem?_set_self (lt_of_getElem? hxf)⟩
        replace hF22 := hF22b
        have hb1022 := hb102b.keepO hS22.keep (fun e => absurd e (by omega))
        have hb1322 := hb132b.keepO hS22.keep (fun e => absurd e (by omega))
        have hb10l22 := hb1022.lt
        have hb13l22 := hb1322.lt
        have hch22 : FrR w22 xch (ycch f o) := hch2b.keep hKO22 (KT.kf hF2b.blk hS22.keep (by decide))
        have hN1122 := hN112b
        have hN1422 := hN142b
        have hne13F : b13 ≠ F := by omega
        have hneY : ∀ F' o', (xsWarmA x s3).frames.1 = some ⟨F', o', none⟩ → b13 ≠ F' := fun F' o' h9 => by rw [show (xsWarmA x s3).frames.1 = x.frames.1 from rfl, hFp] at h9; injection h9 with h9; injection h9 with h9 _; rw [← h9]; exact hne13F
        have hP22 : PFB (ycallf f) := { hP with gas := Nat.le_trans (sz_mono (Nat.sub_le _ _)) hP.gas }
        have hz22 := hKO22.sz
        have hszch := hchz
        clear hS22 hFb22 hFC22 hFR22 hFsz22 hX22a hF22b
        refine W_region rfl ?_
        refine WO_p (PS_move_slice rfl) ?_
        refine WO_p (PS_fieldAddr 4 Hvac.runUnderlying121 rfl Hvac.sizeOf92 rfl rfl) ?_
        refine WO_store1 Hvac.sizeOf92 rfl (v := .slice _ _ _) rfl (Hb.h (by repeat (first | assumption | exact Hb.newY _ _ | refine Hb.alloc ?_ | refine Hb.drew ?_ | refine Hb.ext (by assumption) ?_ | exact Hb.setSameL (by first | omega | (simp only [size_alloc, size_setB, size_drew]; omega)) | exact Hb.setSame (by assumption) | refine Hb.set (by first | omega | (simp only [size_alloc, size_setB, size_drew]; omega)) ?_ ))) rfl (by first | omega | (rw [encYF_sz hchs hchc]; omega) | (show _ < (encYF _).toArray.size; rw [encYF_sz (by exact hchs) (by exact hchc)]; omega)) rfl ?_
        rw [encYF_4 _ s14]
        try rw [setB_setB]
        refine WO_nil ?_
        refine thn_normal ?_
        refine W_seqJ (fun ρ w' => ∃ (sg : SV), Fr [(0, .pointer (some ⟨C, 0, none⟩)), (1, .pointer (some ⟨F, rest.length * 60, none⟩)), (6, .int .i64 (tk : Int)), (10, .pointer (some ⟨b10, 0, none⟩)), (11, .slice s11.1 s11.2.1 s11.2.2), (12, .int .i64 ((tk - 4 : Nat) : Int)), (13, .pointer (some ⟨b13, 0, none⟩))] ρ ∧ YX Y w' C (xsWarmA x s3) (ycall1 y f) (xs.set rest.length x22) (rest ++ [ycallf f]) ∧ FrM w' F (rest.length * 60) r22 x22 (ycallf f) ∧ KeepO Y w w' ∧ Hb w' b10 (.cells (ic .u8 (yaddr (yarg f 1))) 25 (0, 0)) ∧ Hb w' b13 (.cells (encYF { xch with gas := sg }).toArray 121 (0, 0)) ∧ NN w' s11 (ycallv f o) ∧ NN w' sg (ycgas f o) ∧ FrR w' xch (ycch f o)) ?_ ?_
        · skip
          refine W_seq ?_
          refine W_gen fun w23 hw23 => ?_
          have hX23 : YX Y w23 C (xsWarmA x s3) (ycall1 y f) (xs.set rest.length x22) (rest ++ [ycallf f]) := by rw [hw23]; exact (hX22.ext (by repeat (first | assumption | exact Ext.refl _ | refine Ext.alloc ?_ _ | refine Ext.drew ?_ | refine Ext.setB ?_ (by first | omega | (simp only [size_alloc, size_setB, size_drew]; omega)) _ | refine Ext.trans ?_ (by assumption)))).box (Hb.mk (Hb.h (by repeat (first | assumption | exact Hb.newY _ _ | refine Hb.alloc ?_ | refine Hb.drew ?_ | refine Hb.ext (by assumption) ?_ | exact Hb.setSameL (by first | omega | (simp only [size_alloc, size_setB, size_drew]; omega)) | exact Hb.setSame (by assumption) | refine Hb.set (by first | omega | (simp only [size_alloc, size_setB, size_drew]; omega)) ?_ )))) hneY
          have hF23 : FrM w23 F (rest.length * 60) r22 x22 (ycallf f) := by rw [hw23]; exact (hF22.ext (by repeat (first | assumption | exact Ext.refl _ | refine Ext.alloc ?_ _ | refine Ext.drew ?_ | refine Ext.setB ?_ (by first | omega | (simp only [size_alloc, size_setB, size_drew]; omega)) _ | refine Ext.trans ?_ (by assumption)))).box (Hb.mk (Hb.h (by repeat (first | assumption | exact Hb.newY _ _ | refine Hb.alloc ?_ | refine Hb.drew ?_ | refine Hb.ext (by assumption) ?_ | exact Hb.setSameL (by first | omega | (simp only [size_alloc, size_setB, size_drew]; omega)) | exact Hb.setSame (by assumption) | refine Hb.set (by first | omega | (simp only [size_alloc, size_setB, size_drew]; omega)) ?_ )))) hne13F
          have hK23 : KeepO Y w w23 := by rw [hw23]; exact KeepO.setB (hK22.extR (by repeat (first | assumption | exact Ext.refl _ | refine Ext.alloc ?_ _ | refine Ext.drew ?_ | refine Ext.setB ?_ (by first | omega | (simp only [size_alloc, size_setB, size_drew]; omega)) _ | refine Ext.trans ?_ (by assumption)))) (fun h9 => absurd h9 (by omega)) _
          have hb1323 : Hb w23 b13 (.cells (encYF { xch with gas := s14 }).toArray 121 (0, 0)) := by rw [hw23]; exact Hb.mk (Hb.h (by repeat (first | assumption | exact Hb.newY _ _ | refine Hb.alloc ?_ | refine Hb.drew ?_ | refine Hb.ext (by assumption) ?_ | exact Hb.setSameL (by first | omega | (simp only [size_alloc, size_setB, size_drew]; omega)) | exact Hb.setSame (by assumption) | refine Hb.set (by first | omega | (simp only [size_alloc, size_setB, size_drew]; omega)) ?_ )))
          have hch23 : FrR w23 xch (ycch f o) := by rw [hw23]; exact FrR.b121 (FrR.ext hch22 (by repeat (first | assumption | exact Ext.refl _ | refine Ext.alloc ?_ _ | refine Ext.drew ?_ | refine Ext.setB ?_ (by first | omega | (simp only [size_alloc, size_setB, size_drew]; omega)) _ | refine Ext.trans ?_ (by assumption)))) (Hb.mk (Hb.h (by repeat (first | assumption | exact Hb.newY _ _ | refine Hb.alloc ?_ | refine Hb.drew ?_ | refine Hb.ext (by assumption) ?_ | exact Hb.setSameL (by first | omega | (simp only [size_alloc, size_setB, size_drew]; omega)) | exact Hb.setSame (by assumption) | refine Hb.set (by first | omega | (simp only [size_alloc, size_setB, size_drew]; omega)) ?_ ))))
          have hb1023 : Hb w23 b10 (.cells (ic .u8 (yaddr (yarg f 1))) 25 (0, 0)) := by rw [hw23]; exact Hb.mk (Hb.h (by repeat (first | assumption | exact Hb.newY _ _ | refine Hb.alloc ?_ | refine Hb.drew ?_ | refine Hb.ext (by assumption) ?_ | exact Hb.setSameL (by first | omega | (simp only [size_alloc, size_setB, size_drew]; omega)) | exact Hb.setSame (by assumption) | refine Hb.set (by first | omega | (simp only [size_alloc, size_setB, size_drew]; omega)) ?_ )))
          have hb10l23 := hb1023.lt
          have hN1123 : NN w23 s11 (ycallv f o) := by rw [hw23]; exact NN.b121 (NN.ext hN1122 (by repeat (first | assumption | exact Ext.refl _ | refine Ext.alloc ?_ _ | refine Ext.drew ?_ | refine Ext.setB ?_ (by first | omega | (simp only [size_alloc, size_setB, size_drew]; omega)) _ | refine Ext.trans ?_ (by assumption)))) (Hb.mk (Hb.h (by repeat (first | assumption | exact Hb.newY _ _ | refine Hb.alloc ?_ | refine Hb.drew ?_ | refine Hb.ext (by assumption) ?_ | exact Hb.setSameL (by first | omega | (simp only [size_alloc, size_setB, size_drew]; omega)) | exact Hb.setSame (by assumption) | refine Hb.set (by first | omega | (simp only [size_alloc, size_setB, size_drew]; omega)) ?_ ))))
          have hN1423 : NN w23 s14 (ysent f.gas (yarg f 0)) := by rw [hw23]; exact NN.b121 (NN.ext hN1422 (by repeat (first | assumption | exact Ext.refl _ | refine Ext.alloc ?_ _ | refine Ext.drew ?_ | refine Ext.setB ?_ (by first | omega | (simp only [size_alloc, size_setB, size_drew]; omega)) _ | refine Ext.trans ?_ (by assumption)))) (Hb.mk (Hb.h (by repeat (first | assumption | exact Hb.newY _ _ | refine Hb.alloc ?_ | refine Hb.drew ?_ | refine Hb.ext (by assumption) ?_ | exact Hb.setSameL (by first | omega | (simp only [size_alloc, size_setB, size_drew]; omega)) | exact Hb.setSame (by assumption) | refine Hb.set (by first | omega | (simp only [size_alloc, size_setB, size_drew]; omega)) ?_ ))))
          clear hw23
          have hz23 := hK23.sz
          have hb13l23 := hb1323.lt
          replace hO := hX23.omb
          have hSS23 := hX23.ss
          have hSb23 := hSS23.blk
          have hSl23 := hSb23.lt
          have hFb23 := hF23.blk
          have hFl23 := hFb23.lt
          refine W_region rfl ?_
          refine WO_p (PS_move_slice rfl) ?_
          refine WO_call Hvac.call91 (by rfl) (Ret.mono (yIsZero_spec _ (OmB.ext hO (by repeat (first | assumption | exact Ext.refl _ | refine Ext.alloc ?_ _ | refine Ext.drew ?_ | refine Ext.setB ?_ (by first | omega | (simp only [size_alloc, size_setB, size_drew]; omega)) _ | exact Ext.trans (by assumption) (by assumption) | refine Ext.trans ?_ (by assumption)))) _ _ _ _ (by first | exact NN.nil _ | assumption | exact NN.ext (by assumption) (by repeat (first | assumption | exact Ext.refl _ | refine Ext.alloc ?_ _ | refine Ext.drew ?_ | refine Ext.setB ?_ (by first | omega | (simp only [size_alloc, size_setB, size_drew]; omega)) _ | exact Ext.trans (by assumption) (by assumption) | refine Ext.trans ?_ (by assumption)))) (by first | assumption | omega | (rw [sz_zero]; omega))) ?_)
          rintro _ w91_23 ⟨hE91_23, rfl⟩
          have hz91_23 := hE91_23.1
          try simp only [size_alloc, size_setB, size_drew] at hz91_23
          refine WO_p (PS_not rfl) ?_
          refine WO_nil ?_
          refine thn_normal ?_
          refine W_if rfl (fun hb27 => ?_) (fun hb27 => ?_)
          · have hb27p := hb27.h; try simp only [al_ete, al_dfn, Bool.not_eq_true', Bool.not_eq_false', al_ne, Bool.not_not, al_nn] at hb27p
            have hv9 : ycallv f o ≠ 0 := by simpa using hb27p
            refine W_region rfl ?_
            refine WO_p (PS_move_slice rfl) ?_
            refine WO_call Hvac.call19 (by rfl) (Ret.mono (nNum_spec (OmB.ext hO (by repeat (first | assumption | exact Ext.refl _ | refine Ext.alloc ?_ _ | refine Ext.drew ?_ | refine Ext.setB ?_ (by first | omega | (simp only [size_alloc, size_setB, size_drew]; omega)) _ | exact Ext.trans (by assumption) (by assumption) | refine Ext.trans ?_ (by assumption)))) ⟨by omega, by omega⟩) ?_)
            rintro _ w19_27 ⟨hE19_27, s19_27, rfl, hN19_27, hs19_27⟩
            have hz19_27 := hE19_27.1
            try simp only [size_alloc, size_setB, size_drew] at hz19_27
            try simp only [Int.toNat_natCast, toNat_lit] at hN19_27 hs19_27
            try simp only [show Int.toNat 2300 = 2300 from rfl] at hN19_27 hs19_27
            refine WO_call Hvac.call24 (by rfl) (Ret.mono (nAdd_spec (OmB.ext hO (by repeat (first | assumption | exact Ext.refl _ | refine Ext.alloc ?_ _ | refine Ext.drew ?_ | refine Ext.setB ?_ (by first | omega | (simp only [size_alloc, size_setB, size_drew]; omega)) _ | exact Ext.trans (by assumption) (by assumption) | refine Ext.trans ?_ (by assumption)))) (by first | exact NN.nil _ | assumption | exact NN.ext (by assumption) (by repeat (first | assumption | exact Ext.refl _ | refine Ext.alloc ?_ _ | refine Ext.drew ?_ | refine Ext.setB ?_ (by first | omega | (simp only [size_alloc, size_setB, size_drew]; omega)) _ | exact Ext.trans (by assumption) (by assumption) | refine Ext.trans ?_ (by assumption)))) (by first | exact NN.nil _ | assumption | exact NN.ext (by assumption) (by repeat (first | assumption | exact Ext.refl _ | refine Ext.alloc ?_ _ | refine Ext.drew ?_ | refine Ext.setB ?_ (by first | omega | (simp only [size_alloc, size_setB, size_drew]; omega)) _ | exact Ext.trans (by assumption) (by assumption) | refine Ext.trans ?_ (by assumption)))) (by first | assumption | omega | (rw [sz_zero]; omega)) (by first | assumption | omega | (rw [sz_zero]; omega))) ?_)
            rintro _ w24_28 ⟨hE24_28, s25, rfl, hN25⟩
            have hz24_28 := hE24_28.1
            try simp only [size_alloc, size_setB, size_drew] at hz24_28
            refine WO_p (PS_fieldAddr 4 Hvac.runUnderlying121 rfl Hvac.sizeOf92 rfl rfl) ?_
            refine WO_store1 Hvac.sizeOf92 rfl (v := .slice _ _ _) rfl (Hb.h (by repeat (first | assumption | exact Hb.newY _ _ | refine Hb.alloc ?_ | refine Hb.drew ?_ | refine Hb.ext (by assumption) ?_ | exact Hb.setSameL (by first | omega | (simp only [size_alloc, size_setB, size_drew]; omega)) | exact Hb.setSame (by assumption) | refine Hb.set (by first | omega | (simp only [size_alloc, size_setB, size_drew]; omega)) ?_ ))) rfl (by first | omega | (rw [encYF_sz hchs hchc]; omega) | (show _ < (encYF _).toArray.size; rw [encYF_sz (by exact hchs) (by exact hchc)]; omega)) rfl ?_
            rw [encYF_4 _ s25]
            try rw [setB_setB]
            refine WO_nil ?_
            refine thn_normal ?_
            have hcg : ycgas f o = ysent f.gas (yarg f 0) + 2300 := (by unfold ycgas; rw [if_pos hv9]); rw [hcg]; exact ⟨(_, _, _), ⟨rfl, rfl, rfl, rfl, rfl, rfl, rfl, trivial⟩, (hX23.ext (by repeat (first | assumption | exact Ext.refl _ | refine Ext.alloc ?_ _ | refine Ext.drew ?_ | refine Ext.setB ?_ (by first | omega | (simp only [size_alloc, size_setB, size_drew]; omega)) _ | refine Ext.trans ?_ (by assumption)))).box (Hb.mk (Hb.h (by repeat (first | assumption | exact Hb.newY _ _ | refine Hb.alloc ?_ | refine Hb.drew ?_ | refine Hb.ext (by assumption) ?_ | exact Hb.setSameL (by first | omega | (simp only [size_alloc, size_setB, size_drew]; omega)) | exact Hb.setSame (by assumption) | refine Hb.set (by first | omega | (simp only [size_alloc, size_setB, size_drew]; omega)) ?_ )))) hneY, (hF23.ext (by repeat (first | assumption | exact Ext.refl _ | refine Ext.alloc ?_ _ | refine Ext.drew ?_ | refine Ext.setB ?_ (by first | omega | (simp only [size_alloc, size_setB, size_drew]; omega)) _ | refine Ext.trans ?_ (by assumption)))).box (Hb.mk (Hb.h (by repeat (first | assumption | exact Hb.newY _ _ | refine Hb.alloc ?_ | refine Hb.drew ?_ | refine Hb.ext (by assumption) ?_ | exact Hb.setSameL (by first | omega | (simp only [size_alloc, size_setB, size_drew]; omega)) | exact Hb.setSame (by assumption) | refine Hb.set (by first | omega | (simp only [size_alloc, size_setB, size_drew]; omega)) ?_ )))) hne13F, KeepO.setB (hK23.extR (by repeat (first | assumption | exact Ext.refl _ | refine Ext.alloc ?_ _ | refine Ext.drew ?_ | refine Ext.setB ?_ (by first | omega | (simp only [size_alloc, size_setB, size_drew]; omega)) _ | refine Ext.trans ?_ (by assumption)))) (fun h9 => absurd h9 (by omega)) _, Hb.mk (Hb.h (by repeat (first | assumption | exact Hb.newY _ _ | refine Hb.alloc ?_ | refine Hb.drew ?_ | refine Hb.ext (by assumption) ?_ | exact Hb.setSameL (by first | omega | (simp only [size_alloc, size_setB, size_drew]; omega)) | exact Hb.setSame (by assumption) | refine Hb.set (by first | omega | (simp only [size_alloc, size_setB, size_drew]; omega)) ?_ ))), Hb.mk (Hb.h (by repeat (first | assumption | exact Hb.newY _ _ | refine Hb.alloc ?_ | refine Hb.drew ?_ | refine Hb.ext (by assumption) ?_ | exact Hb.setSameL (by first | omega | (simp only [size_alloc, size_setB, size_drew]; omega)) | exact Hb.setSame (by assumption) | refine Hb.set (by first | omega | (simp only [size_alloc, size_setB, size_drew]; omega)) ?_ ))), NN.b121 (NN.ext hN1123 (by repeat (first | assumption | exact Ext.refl _ | refine Ext.alloc ?_ _ | refine Ext.drew ?_ | refine Ext.setB ?_ (by first | omega | (simp only [size_alloc, size_setB, size_drew]; omega)) _ | refine Ext.trans ?_ (by assumption)))) (Hb.mk (Hb.h (by repeat (first | assumption | exact Hb.newY _ _ | refine Hb.alloc ?_ | refine Hb.drew ?_ | refine Hb.ext (by assumption) ?_ | exact Hb.setSameL (by first | omega | (simp only [size_alloc, size_setB, size_drew]; omega)) | exact Hb.setSame (by assumption) | refine Hb.set (by first | omega | (simp only [size_alloc, size_setB, size_drew]; omega)) ?_ )))), NN.b121 hN25 (Hb.mk (Hb.h (by repeat (first | assumption | exact Hb.newY _ _ | refine Hb.alloc ?_ | refine Hb.drew ?_ | refine Hb.ext (by assumption) ?_ | exact Hb.setSameL (by first | omega | (simp only [size_alloc, size_setB, size_drew]; omega)) | exact Hb.setSame (by assumption) | refine Hb.set (by first | omega | (simp only [size_alloc, size_setB, size_drew]; omega)) ?_ )))), FrR.b121 (FrR.ext hch23 (by repeat (first | assumption | exact Ext.refl _ | refine Ext.alloc ?_ _ | refine Ext.drew ?_ | refine Ext.setB ?_ (by first | omega | (simp only [size_alloc, size_setB, size_drew]; omega)) _ | refine Ext.trans ?_ (by assumption)))) (Hb.mk (Hb.h (by repeat (first | assumption | exact Hb.newY _ _ | refine Hb.alloc ?_ | refine Hb.drew ?_ | refine Hb.ext (by assumption) ?_ | exact Hb.setSameL (by first | omega | (simp only [size_alloc, size_setB, size_drew]; omega)) | exact Hb.setSame (by assumption) | refine Hb.set (by first | omega | (simp only [size_alloc, size_setB, size_drew]; omega)) ?_ ))))⟩
          · have hb27p := hb27.h; try simp only [al_ete, al_dfn, Bool.not_eq_true', Bool.not_eq_false', al_ne, Bool.not_not, al_nn] at hb27p
            have hv9 : ¬ ycallv f o ≠ 0 := by simpa using hb27p
            refine W_skip ?_
            refine thn_normal ?_
            have hcg : ycgas f o = ysent f.gas (yarg f 0) := (by unfold ycgas; rw [if_neg hv9]); rw [hcg]; exact ⟨s14, ⟨rfl, rfl, rfl, rfl, rfl, rfl, rfl, trivial⟩, hX23.ext (by repeat (first | assumption | exact Ext.refl _ | refine Ext.alloc ?_ _ | refine Ext.drew ?_ | refine Ext.setB ?_ (by first | omega | (simp only [size_alloc, size_setB, size_drew]; omega)) _ | refine Ext.trans ?_ (by assumption))), hF23.ext (by repeat (first | assumption | exact Ext.refl _ | refine Ext.alloc ?_ _ | refine Ext.drew ?_ | refine Ext.setB ?_ (by first | omega | (simp only [size_alloc, size_setB, size_drew]; omega)) _ | refine Ext.trans ?_ (by assumption))), hK23.extR (by repeat (first | assumption | exact Ext.refl _ | refine Ext.alloc ?_ _ | refine Ext.drew ?_ | refine Ext.setB ?_ (by first | omega | (simp only [size_alloc, size_setB, size_drew]; omega)) _ | refine Ext.trans ?_ (by assumption))), Hb.mk (Hb.h (by repeat (first | assumption | exact Hb.newY _ _ | refine Hb.alloc ?_ | refine Hb.drew ?_ | refine Hb.ext (by assumption) ?_ | exact Hb.setSameL (by first | omega | (simp only [size_alloc, size_setB, size_drew]; omega)) | exact Hb.setSame (by assumption) | refine Hb.set (by first | omega | (simp only [size_alloc, size_setB, size_drew]; omega)) ?_ ))), Hb.mk (Hb.h (by repeat (first | assumption | exact Hb.newY _ _ | refine Hb.alloc ?_ | refine Hb.drew ?_ | refine Hb.ext (by assumption) ?_ | exact Hb.setSameL (by first | omega | (simp only [size_alloc, size_setB, size_drew]; omega)) | exact Hb.setSame (by assumption) | refine Hb.set (by first | omega | (simp only [size_alloc, size_setB, size_drew]; omega)) ?_ ))), NN.ext hN1123 (by repeat (first | assumption | exact Ext.refl _ | refine Ext.alloc ?_ _ | refine Ext.drew ?_ | refine Ext.setB ?_ (by first | omega | (simp only [size_alloc, size_setB, size_drew]; omega)) _ | refine Ext.trans ?_ (by assumption))), NN.ext hN1423 (by repeat (first | assumption | exact Ext.refl _ | refine Ext.alloc ?_ _ | refine Ext.drew ?_ | refine Ext.setB ?_ (by first | omega | (simp only [size_alloc, size_setB, size_drew]; omega)) _ | refine Ext.trans ?_ (by assumption))), FrR.ext hch23 (by repeat (first | assumption | exact Ext.refl _ | refine Ext.alloc ?_ _ | refine Ext.drew ?_ | refine Ext.setB ?_ (by first | omega | (simp only [size_alloc, size_setB, size_drew]; omega)) _ | refine Ext.trans ?_ (by assumption)))⟩
        · rintro ρ26 w26 ⟨sg, hFr26, hX26, hF26, hK26, hb1026, hb1326, hN1126, hNsg26, hch26⟩
          refine W_env _ hFr26 ?_
          have hz26 := hK26.sz
          have hb10l26 := hb1026.lt
          have hb13l26 := hb1326.lt
          replace hO := hX26.omb
          have hSS26 := hX26.ss
          have hSb26 := hSS26.blk
          have hSl26 := hSb26.lt
          have hFb26 := hF26.blk
          have hFl26 := hFb26.lt
          have hSf26 := hF26.s0
          have hzsg : sz (ycgas f o) ≤ 31 := by
            unfold ycgas; split
            · have h9 := sz_add (ysent f.gas (yarg f 0)) 2300; have h8 : sz 2300 ≤ 8 := sz_le (by decide); have h7 := sz_ysent (a := yarg f 0) hgf; omega
            · have h7 := sz_ysent (a := yarg f 0) hgf; omega
          have hszg : (encYF { xch with gas := sg }).toArray.size = 60 := encYF_sz (x := { xch with gas := sg }) hchs hchc
          have hk9 : Ce (encYS (xsWarmA x s3)).toArray (0 + 9) (.slice x.frames.1 (rest.length + 1) x.frames.2.2) := ⟨by have h9 : (encYS (xsWarmA x s3)).toArray[0 + 9]? = some (.slice x.frames.1 x.frames.2.1 x.frames.2.2) := rfl; rw [h9, hlf]⟩
          have hk4g := hF26.fc.gas
          have hN4g := hF26.rel.gas
          have hz4g : sz (ycallf f).gas ≤ 30 := Nat.le_trans (sz_mono (Nat.sub_le _ _)) hgf
          have hfs26 := hF26.fc.size
          have hk12_26 : Xt r22 (rest.length * 60 + 12) (rest.length * 60 + 12 + 20) (ic .u8 f.self) := by have h9 := hF26.fc.self; rw [hF26.rel.self] at h9; exact h9
          have hk4sg : Ce (encYF { xch with gas := sg }).toArray (0 + 4) (.slice sg.1 sg.2.1 sg.2.2) := ⟨rfl⟩
          refine W_seq ?_
          refine W_seq ?_
          refine W_drawE [false, false, false, false, false, false, false, false, false, false, false, false, false, false, false, false, false, false, false, false, false] hmix (by kernel_rfl) rfl ?_
          refine WH_p (PS_move_ptr rfl) rfl ?_
          refine WH_p (PS_nilCheck rfl) rfl ?_
          refine WH_p (PS_fieldAddr 9 Hvac.runUnderlying99 rfl Hvac.sizeOf97 rfl rfl) rfl ?_
          refine WH_load (.slice _ _ _) Hvac.isAgg97 rfl (Hb.h (by repeat (first | assumption | exact Hb.newY _ _ | refine Hb.alloc ?_ | refine Hb.drew ?_ | refine Hb.ext (by assumption) ?_ | exact Hb.setSameL (by first | omega | (simp only [size_alloc, size_setB, size_drew]; omega)) | exact Hb.setSame (by assumption) | refine Hb.set (by first | omega | (simp only [size_alloc, size_setB, size_drew]; omega)) ?_ ))) (Ce.h (by first | assumption | exact ⟨rfl⟩)) ?_
          refine WH_p (PS_lenS Hvac.runUnderlying97 rfl) rfl ?_
          refine WH_p (PS_sub_i64n rfl rfl (by omega) (by omega)) rfl ?_
          refine WH_p (PS_geq rfl rfl) rfl ?_
          refine WH_p (PS_move_bool rfl) rfl ?_
          refine WH_if (t := 115) rfl (fun hb31 => ?_) (fun hb31 => ?_)
          · have hb31p := hb31.h; try simp only [al_ete, al_dfn, Bool.not_eq_true', Bool.not_eq_false', al_ne, Bool.not_not, al_nn] at hb31p
            have hq9 : 6 ≤ rest.length ∨ (yacct y.now.accts f.self).bal < ycallv f o := Or.inl (by omega)
            refine WH_guardF rfl rfl hb31.h ?_
            refine WH_guardF rfl rfl hb31.h ?_
            refine WH_guardF rfl rfl hb31.h ?_
            refine WH_guardF rfl rfl hb31.h ?_
            refine WH_guardF rfl rfl hb31.h ?_
            refine WH_guardF rfl rfl hb31.h ?_
            refine WH_guardF rfl rfl hb31.h ?_
            refine WH_guardF rfl rfl hb31.h ?_
            refine WH_guardF rfl rfl hb31.h ?_
            refine WH_guardF rfl rfl hb31.h ?_
            refine WH_guardF rfl rfl hb31.h ?_
            refine WH_guardF rfl rfl hb31.h ?_
            refine WH_p (PS_pickT rfl hb31.h rfl) rfl ?_
            refine WH_nil ?_
            refine thn_normal ?_
            refine W_condT rfl rfl ?_
            refine W_seq ?_
            refine W_drawE [false, false, false, false, false, false, false, false, false, false, false] hmix (by kernel_rfl) rfl ?_
            refine WH_p (PS_move_ptr rfl) rfl ?_
            refine WH_p (PS_move_ptr rfl) rfl ?_
            refine WH_p (PS_nilCheck rfl) rfl ?_
            refine WH_p (PS_fieldAddr 4 Hvac.runUnderlying121 rfl Hvac.sizeOf92 rfl rfl) rfl ?_
            refine WH_load (.slice _ _ _) Hvac.isAgg92 rfl (Hb.h (by repeat (first | assumption | exact Hb.newY _ _ | refine Hb.alloc ?_ | refine Hb.drew ?_ | refine Hb.ext (by assumption) ?_ | exact Hb.setSameL (by first | omega | (simp only [size_alloc, size_setB, size_drew]; omega)) | exact Hb.setSame (by assumption) | refine Hb.set (by first | omega | (simp only [size_alloc, size_setB, size_drew]; omega)) ?_ ))) (Ce.h (by first | assumption | exact ⟨rfl⟩)) ?_
            refine WH_p (PS_fieldAddr 4 Hvac.runUnderlying121 rfl Hvac.sizeOf92 rfl rfl) rfl ?_
            refine WH_load (.slice _ _ _) Hvac.isAgg92 rfl (Hb.h (by repeat (first | assumption | exact Hb.newY _ _ | refine Hb.alloc ?_ | refine Hb.drew ?_ | refine Hb.ext (by assumption) ?_ | exact Hb.setSameL (by first | omega | (simp only [size_alloc, size_setB, size_drew]; omega)) | exact Hb.setSame (by assumption) | refine Hb.set (by first | omega | (simp only [size_alloc, size_setB, size_drew]; omega)) ?_ ))) (Ce.h (by first | assumption | exact ⟨rfl⟩)) ?_
            refine WH_call Hvac.call24 (by rfl) (Ret.mono (nAdd_spec (OmB.ext hO (by repeat (first | assumption | exact Ext.refl _ | refine Ext.alloc ?_ _ | refine Ext.drew ?_ | refine Ext.setB ?_ (by first | omega | (simp only [size_alloc, size_setB, size_drew]; omega)) _ | exact Ext.trans (by assumption) (by assumption) | refine Ext.trans ?_ (by assumption)))) (by first | exact NN.nil _ | assumption | exact NN.ext (by assumption) (by repeat (first | assumption | exact Ext.refl _ | refine Ext.alloc ?_ _ | refine Ext.drew ?_ | refine Ext.setB ?_ (by first | omega | (simp only [size_alloc, size_setB, size_drew]; omega)) _ | exact Ext.trans (by assumption) (by assumption) | refine Ext.trans ?_ (by assumption)))) (by first | exact NN.nil _ | assumption | exact NN.ext (by assumption) (by repeat (first | assumption | exact Ext.refl _ | refine Ext.alloc ?_ _ | refine Ext.drew ?_ | refine Ext.setB ?_ (by first | omega | (simp only [size_alloc, size_setB, size_drew]; omega)) _ | exact Ext.trans (by assumption) (by assumption) | refine Ext.trans ?_ (by assumption)))) (by first | assumption | omega | (rw [sz_zero]; omega)) (by first | assumption | omega | (rw [sz_zero]; omega))) ?_)
            rintro _ w24_31 ⟨hE24_31, s27, rfl, hN27⟩
            refine ⟨(fun h => by cases h), ?_⟩
            have hz24_31 := hE24_31.1
            try simp only [size_alloc, size_setB, size_drew] at hz24_31
            refine WH_p (PS_nilCheck rfl) rfl ?_
            refine WH_p (PS_fieldAddr 4 Hvac.runUnderlying121 rfl Hvac.sizeOf92 rfl rfl) rfl ?_
            refine WH_store1 Hvac.sizeOf92 rfl (v := (.slice _ _ _)) rfl (Hb.h (by repeat (first | assumption | exact Hb.newY _ _ | refine Hb.alloc ?_ | refine Hb.drew ?_ | refine Hb.ext (by assumption) ?_ | exact Hb.setSameL (by first | omega | (simp only [size_alloc, size_setB, size_drew]; omega)) | exact Hb.setSame (by assumption) | refine Hb.set (by first | omega | (simp only [size_alloc, size_setB, size_drew]; omega)) ?_ ))) rfl (by first | omega | assumption | rfl | decide | exact Nat.le_refl _ | (simp only [size_ic, Value.cells]; omega) | (simp [encWs]; done) | (simp; omega) | simp | exact encYA_sz (by assumption) | exact encYT_sz (by assumption) | exact encYM_sz (by assumption)) rfl (fun h => by cases h) ?_
            refine WH_nil ?_
            refine thn_normal ?_
            refine W_seq ?_
            refine W_gen fun w27 hw27 => ?_
            have hS27 := FStep.put (f' := { ycallf f with gas := (ycallf f).gas + ycgas f o }) hw27 hF26 (by repeat (first | assumption | exact Ext.refl _ | refine Ext.alloc ?_ _ | refine Ext.drew ?_ | refine Ext.setB ?_ (by first | omega | (simp only [size_alloc, size_setB, size_drew]; omega)) _ | refine Ext.trans ?_ (by assumption))) (hF26.fc.gas_ s27) (FrR.sGas (FrR.ext hF26.rel (by repeat (first | assumption | exact Ext.refl _ | refine Ext.alloc ?_ _ | refine Ext.drew ?_ | refine Ext.setB ?_ (by first | omega | (simp only [size_alloc, size_setB, size_drew]; omega)) _ | refine Ext.trans ?_ (by assumption)))) (by first | exact NN.nil _ | assumption | exact NN.ext (by assumption) (by repeat (first | assumption | exact Ext.refl _ | refine Ext.alloc ?_ _ | refine Ext.drew ?_ | refine Ext.setB ?_ (by first | omega | (simp only [size_alloc, size_setB, size_drew]; omega)) _ | refine Ext.trans ?_ (by assumption)))))
            have hF27 := hS27.m hFo
            have hKO27 := hS27.ko hFo
            replace hO := hO.keep hKO27
            have hFb27 := hF27.blk
            have hFC27 := hF27.fc
            have hFR27 := hF27.rel
            have hFl27 := hFb27.lt
            have hFsz27 := hFC27.size
            clear hw27
            have hX27 := hX26.ftop (o := 0) hFp hxf22 hF26 hS27 rfl rfl
            have hxf27 : ∀ q : YFr, ((xs.set rest.length x22).set rest.length q)[rest.length]? = some q := fun q => List.getElem?_set_self (lt_of_getElem? hxf22)
            have hP27 : PFB ({ ycallf f with gas := (ycallf f).gas + ycgas f o }) := { hP22 with gas := by show sz ((ycallf f).gas + ycgas f o) ≤ 40; have h9 := sz_add (ycallf f).gas (ycgas f o); omega }
            refine W_region rfl ?_
            refine WO_p (PS_move_ptr rfl) ?_
            refine WO_p (PS_move_int rfl) ?_
            refine WO_call Hvac.call117 (by rfl) (Ret.mono (yAnswer_spec _ (OmB.ext hO (by repeat (first | assumption | exact Ext.refl _ | refine Ext.alloc ?_ _ | refine Ext.drew ?_ | refine Ext.setB ?_ (by first | omega | (simp only [size_alloc, size_setB, size_drew]; omega)) _ | exact Ext.trans (by assumption) (by assumption) | refine Ext.trans ?_ (by assumption)))) _ _ _ _ _ (FrM.ext hF27 (by repeat (first | assumption | exact Ext.refl _ | refine Ext.alloc ?_ _ | refine Ext.drew ?_ | refine Ext.setB ?_ (by first | omega | (simp only [size_alloc, size_setB, size_drew]; omega)) _ | exact Ext.trans (by assumption) (by assumption) | refine Ext.trans ?_ (by assumption)))) hP27 tk hst _ _ _ _ (NN.nil _) (by first | assumption | omega | (rw [sz_zero]; omega))) ?_)
            rintro _ w28 ⟨rfl, r28, x28, hS28, hm28⟩
            refine WO_nil ?_
            refine thn_normal ?_
            refine W_ret ?_
            refine thn_ret ?_
            first | refine bodyQ_ret0 Hvac.results124 ?_ | refine bodyQ_end0 Hvac.results124 ?_
            have hX28 := (hX27.ext (by repeat (first | assumption | exact Ext.refl _ | refine Ext.alloc ?_ _ | refine Ext.drew ?_ | refine Ext.setB ?_ (by first | omega | (simp only [size_alloc, size_setB, size_drew]; omega)) _ | refine Ext.trans ?_ (by assumption)))).ftop (o := 0) hFp (hxf27 _) (FrM.ext hF27 (by repeat (first | assumption | exact Ext.refl _ | refine Ext.alloc ?_ _ | refine Ext.drew ?_ | refine Ext.setB ?_ (by first | omega | (simp only [size_alloc, size_setB, size_drew]; omega)) _ | refine Ext.trans ?_ (by assumption)))) hS28 hm28 rfl; have e9 : yenterCall y rest f o = (ycall1 y f, rest ++ [yanswer ({ ycallf f with gas := (ycallf f).gas + ycgas f o }) tk 0]) := (by unfold yenterCall; rw [if_pos hq9, htn]); rw [e9]; exact ⟨rfl, hX28.ret (((hK26.trans (KeepO.mono hS27.keep (fun b e => e ▸ hYF)) (fun _ _ e => e)).extR (by repeat (first | assumption | exact Ext.refl _ | refine Ext.alloc ?_ _ | refine Ext.drew ?_ | refine Ext.setB ?_ (by first | omega | (simp only [size_alloc, size_setB, size_drew]; omega)) _ | refine Ext.trans ?_ (by assumption)))).trans (KeepO.mono hS28.keep (fun b e => e ▸ hYF)) (fun _ _ e => e))⟩
          · have hb31p := hb31.h; try simp only [al_ete, al_dfn, Bool.not_eq_true', Bool.not_eq_false', al_ne, Bool.not_not, al_nn] at hb31p
            have hq6 : ¬ 6 ≤ rest.length := by omega
            refine WH_guardT rfl rfl hb31.h ?_
            refine WH_p (PS_move_ptr rfl) rfl ?_
            refine WH_guardT rfl rfl hb31.h ?_
            refine WH_p (PS_nilCheck rfl) rfl ?_
            refine WH_guardT rfl rfl hb31.h ?_
            refine WH_p (PS_fieldAddr 0 Hvac.runUnderlying99 rfl Hvac.sizeOf95 rfl rfl) rfl ?_
            refine WH_guardT rfl rfl hb31.h ?_
            refine WH_p (PS_move_ptr rfl) rfl ?_
            refine WH_guardT rfl rfl hb31.h ?_
            refine WH_p (PS_nilCheck rfl) rfl ?_
            refine WH_guardT rfl rfl hb31.h ?_
            refine WH_p (PS_fieldAddr 12 Hvac.runUnderlying121 rfl Hvac.sizeOf25 rfl rfl) rfl ?_
            refine WH_guardT rfl rfl hb31.h ?_
            refine WH_loadA _ Hvac.isAgg25 Hvac.sizeOf25 rfl (Hb.h (by repeat (first | assumption | exact Hb.newY _ _ | refine Hb.alloc ?_ | refine Hb.drew ?_ | refine Hb.ext (by assumption) ?_ | exact Hb.setSameL (by first | omega | (simp only [size_alloc, size_setB, size_drew]; omega)) | exact Hb.setSame (by assumption) | refine Hb.set (by first | omega | (simp only [size_alloc, size_setB, size_drew]; omega)) ?_ ))) (by first | omega | assumption | rfl | decide | exact Nat.le_refl _ | (simp only [size_ic, Value.cells]; omega) | (simp [encWs]; done) | (simp; omega) | simp | exact encYA_sz (by assumption) | exact encYT_sz (by assumption) | exact encYM_sz (by assumption)) (Xt.h (by first | assumption | exact Xt.whole rfl rfl | exact Xt.whole rfl (by assumption) | exact Xt.whole rfl (by simp only [size_ic, Value.cells]; omega) | exact ⟨rfl⟩)) ?_
            refine WH_guardT rfl rfl hb31.h ?_
            refine WH_call Hvac.call17 (by rfl) (Ret.mono (acctS (OmB.ext hO (by repeat (first | assumption | exact Ext.refl _ | refine Ext.alloc ?_ _ | refine Ext.drew ?_ | refine Ext.setB ?_ (by first | omega | (simp only [size_alloc, size_setB, size_drew]; omega)) _ | exact Ext.trans (by assumption) (by assumption) | refine Ext.trans ?_ (by assumption)))) (by first | assumption | exact YSS.ext (by assumption) (by repeat (first | assumption | exact Ext.refl _ | refine Ext.alloc ?_ _ | refine Ext.drew ?_ | refine Ext.setB ?_ (by first | omega | (simp only [size_alloc, size_setB, size_drew]; omega)) _ | exact Ext.trans (by assumption) (by assumption) | refine Ext.trans ?_ (by assumption)))) hB3 (by omega) hFR.sb) ?_)
            rintro _ w17_33 ⟨hE17_33, x17, rfl, hxax17, hxrx17⟩
            refine ⟨(fun h => by cases h), ?_⟩
            have hz17_33 := hE17_33.1
            try simp only [size_alloc, size_setB, size_drew] at hz17_33
            have hxlx17 : x17.addr.length = 20 := by rw [hxax17]; exact (hFR.sb).1
            have hszx17 : (encYA x17).toArray.size = 24 := by simpa using encYA_len hxlx17
            have hc2x17 := encYA_2 hxlx17
            have hc3x17 := encYA_3 hxlx17
            have hnb17 : NN w17_33 x17.bal (yacct y.now.accts f.self).bal := hxrx17.bal
            have hbz17 : sz (yacct y.now.accts f.self).bal ≤ 32 := hYB f.self
            refine WH_guardT rfl rfl hb31.h ?_
            refine WH_p (PS_field (.slice _ _ _) 21 Hvac.runUnderlying104 rfl Hvac.isAgg92 rfl rfl (Ce.h (by first | assumption | exact ⟨rfl⟩))) rfl ?_
            refine WH_guardT rfl rfl hb31.h ?_
            refine WH_p (PS_move_slice rfl) rfl ?_
            refine WH_guardT rfl rfl hb31.h ?_
            refine WH_call Hvac.call76 (by rfl) (Ret.mono (nCmp_spec (by first | exact NN.nil _ | assumption | exact NN.ext (by assumption) (by repeat (first | assumption | exact Ext.refl _ | refine Ext.alloc ?_ _ | refine Ext.drew ?_ | refine Ext.setB ?_ (by first | omega | (simp only [size_alloc, size_setB, size_drew]; omega)) _ | exact Ext.trans (by assumption) (by assumption) | refine Ext.trans ?_ (by assumption)))) (by first | exact NN.nil _ | assumption | exact NN.ext (by assumption) (by repeat (first | assumption | exact Ext.refl _ | refine Ext.alloc ?_ _ | refine Ext.drew ?_ | refine Ext.setB ?_ (by first | omega | (simp only [size_alloc, size_setB, size_drew]; omega)) _ | exact Ext.trans (by assumption) (by assumption) | refine Ext.trans ?_ (by assumption)))) (by first | assumption | omega | (rw [sz_zero]; omega)) (by first | assumption | omega | (rw [sz_zero]; omega))) ?_)
            rintro _ w76_34 ⟨hE76_34, rfl⟩
            refine ⟨(fun h => by cases h), ?_⟩
            have hz76_34 := hE76_34.1
            try simp only [size_alloc, size_setB, size_drew] at hz76_34
            refine WH_guardT rfl rfl hb31.h ?_
            refine WH_p (PS_lss rfl rfl) rfl ?_
            refine WH_p (PS_pickF rfl hb31.h rfl) rfl ?_
            refine WH_nil ?_
            refine thn_normal ?_
            refine W_if rfl (fun hb37 => ?_) (fun hb37 => ?_)
            · have hb37p := hb37.h; try simp only [al_ete, al_dfn, Bool.not_eq_true', Bool.not_eq_false', al_ne, Bool.not_not, al_nn] at hb37p
              first | (have hq9 : 6 ≤ rest.length ∨ (yacct y.now.accts f.self).bal < ycallv f o := by assumption) | (have hq9 : 6 ≤ rest.length ∨ (yacct y.now.accts f.self).bal < ycallv f o := Or.inr (by rw [cmpI_lt2] at hb37p; exact hb37p))
              refine W_seq ?_
              refine W_drawE [false, false, false, false, false, false, false, false, false, false, false] hmix (by kernel_rfl) rfl ?_
              refine WH_p (PS_move_ptr rfl) rfl ?_
              refine WH_p (PS_move_ptr rfl) rfl ?_
              refine WH_p (PS_nilCheck rfl) rfl ?_
              refine WH_p (PS_fieldAddr 4 Hvac.runUnderlying121 rfl Hvac.sizeOf92 rfl rfl) rfl ?_
              refine WH_load (.slice _ _ _) Hvac.isAgg92 rfl (Hb.h (by repeat (first | assumption | exact Hb.newY _ _ | refine Hb.alloc ?_ | refine Hb.drew ?_ | refine Hb.ext (by assumption) ?_ | exact Hb.setSameL (by first | omega | (simp only [size_alloc, size_setB, size_drew]; omega)) | exact Hb.setSame (by assumption) | refine Hb.set (by first | omega | (simp only [size_alloc, size_setB, size_drew]; omega)) ?_ ))) (Ce.h (by first | assumption | exact ⟨rfl⟩)) ?_
              refine WH_p (PS_fieldAddr 4 Hvac.runUnderlying121 rfl Hvac.sizeOf92 rfl rfl) rfl ?_
              refine WH_load (.slice _ _ _) Hvac.isAgg92 rfl (Hb.h (by repeat (first | assumption | exact Hb.newY _ _ | refine Hb.alloc ?_ | refine Hb.drew ?_ | refine Hb.ext (by assumption) ?_ | exact Hb.setSameL (by first | omega | (simp only [size_alloc, size_setB, size_drew]; omega)) | exact Hb.setSame (by assumption) | refine Hb.set (by first | omega | (simp only [size_alloc, size_setB, size_drew]; omega)) ?_ ))) (Ce.h (by first | assumption | exact ⟨rfl⟩)) ?_
              refine WH_call Hvac.call24 (by rfl) (Ret.mono (nAdd_spec (OmB.ext hO (by repeat (first | assumption | exact Ext.refl _ | refine Ext.alloc ?_ _ | refine Ext.drew ?_ | refine Ext.setB ?_ (by first | omega | (simp only [size_alloc, size_setB, size_drew]; omega)) _ | exact Ext.trans (by assumption) (by assumption) | refine Ext.trans ?_ (by assumption)))) (by first | exact NN.nil _ | assumption | exact NN.ext (by assumption) (by repeat (first | assumption | exact Ext.refl _ | refine Ext.alloc ?_ _ | refine Ext.drew ?_ | refine Ext.setB ?_ (by first | omega | (simp only [size_alloc, size_setB, size_drew]; omega)) _ | exact Ext.trans (by assumption) (by assumption) | refine Ext.trans ?_ (by assumption)))) (by first | exact NN.nil _ | assumption | exact NN.ext (by assumption) (by repeat (first | assumption | exact Ext.refl _ | refine Ext.alloc ?_ _ | refine Ext.drew ?_ | refine Ext.setB ?_ (by first | omega | (simp only [size_alloc, size_setB, size_drew]; omega)) _ | exact Ext.trans (by assumption) (by assumption) | refine Ext.trans ?_ (by assumption)))) (by first | assumption | omega | (rw [sz_zero]; omega)) (by first | assumption | omega | (rw [sz_zero]; omega))) ?_)
              rintro _ w24_37 ⟨hE24_37, s27, rfl, hN27⟩
              refine ⟨(fun h => by cases h), ?_⟩
              have hz24_37 := hE24_37.1
              try simp only [size_alloc, size_setB, size_drew] at hz24_37
              refine WH_p (PS_nilCheck rfl) rfl ?_
              refine WH_p (PS_fieldAddr 4 Hvac.runUnderlying121 rfl Hvac.sizeOf92 rfl rfl) rfl ?_
              refine WH_store1 Hvac.sizeOf92 rfl (v := (.slice _ _ _)) rfl (Hb.h (by repeat (first | assumption | exact Hb.newY _ _ | refine Hb.alloc ?_ | refine Hb.drew ?_ | refine Hb.ext (by assumption) ?_ | exact Hb.setSameL (by first | omega | (simp only [size_alloc, size_setB, size_drew]; omega)) | exact Hb.setSame (by assumption) | refine Hb.set (by first | omega | (simp only [size_alloc, size_setB, size_drew]; omega)) ?_ ))) rfl (by first | omega | assumption | rfl | decide | exact Nat.le_refl _ | (simp only [size_ic, Value.cells]; omega) | (simp [encWs]; done) | (simp; omega) | simp | exact encYA_sz (by assumption) | exact encYT_sz (by assumption) | exact encYM_sz (by assumption)) rfl (fun h => by cases h) ?_
              refine WH_nil ?_
              refine thn_normal ?_
              refine W_seq ?_
              refine W_gen fun w27 hw27 => ?_
              have hS27 := FStep.put (f' := { ycallf f with gas := (ycallf f).gas + ycgas f o }) hw27 hF26 (by repeat (first | assumption | exact Ext.refl _ | refine Ext.alloc ?_ _ | refine Ext.drew ?_ | refine Ext.setB ?_ (by first | omega | (simp only [size_alloc, size_setB, size_drew]; omega)) _ | refine Ext.trans ?_ (by assumption))) (hF26.fc.gas_ s27) (FrR.sGas (FrR.ext hF26.rel (by repeat (first | assumption | exact Ext.refl _ | refine Ext.alloc ?_ _ | refine Ext.drew ?_ | refine Ext.setB ?_ (by first | omega | (simp only [size_alloc, size_setB, size_drew]; omega)) _ | refine Ext.trans ?_ (by assumption)))) (by first | exact NN.nil _ | assumption | exact NN.ext (by assumption) (by repeat (first | assumption | exact Ext.refl _ | refine Ext.alloc ?_ _ | refine Ext.drew ?_ | refine Ext.setB ?_ (by first | omega | (simp only [size_alloc, size_setB, size_drew]; omega)) _ | refine Ext.trans ?_ (by assumption)))))
              have hF27 := hS27.m hFo
              have hKO27 := hS27.ko hFo
              replace hO := hO.keep hKO27
              have hFb27 := hF27.blk
              have hFC27 := hF27.fc
              have hFR27 := hF27.rel
              have hFl27 := hFb27.lt
              have hFsz27 := hFC27.size
              clear hw27
              have hX27 := hX26.ftop (o := 0) hFp hxf22 hF26 hS27 rfl rfl
              have hxf27 : ∀ q : YFr, ((xs.set rest.length x22).set rest.length q)[rest.length]? = some q := fun q => List.getElem?_set_self (lt_of_getElem? hxf22)
              have hP27 : PFB ({ ycallf f with gas := (ycallf f).gas + ycgas f o }) := { hP22 with gas := by show sz ((ycallf f).gas + ycgas f o) ≤ 40; have h9 := sz_add (ycallf f).gas (ycgas f o); omega }
              refine W_region rfl ?_
              refine WO_p (PS_move_ptr rfl) ?_
              refine WO_p (PS_move_int rfl) ?_
              refine WO_call Hvac.call117 (by rfl) (Ret.mono (yAnswer_spec _ (OmB.ext hO (by repeat (first | assumption | exact Ext.refl _ | refine Ext.alloc ?_ _ | refine Ext.drew ?_ | refine Ext.setB ?_ (by first | omega | (simp only [size_alloc, size_setB, size_drew]; omega)) _ | exact Ext.trans (by assumption) (by assumption) | refine Ext.trans ?_ (by assumption)))) _ _ _ _ _ (FrM.ext hF27 (by repeat (first | assumption | exact Ext.refl _ | refine Ext.alloc ?_ _ | refine Ext.drew ?_ | refine Ext.setB ?_ (by first | omega | (simp only [size_alloc, size_setB, size_drew]; omega)) _ | exact Ext.trans (by assumption) (by assumption) | refine Ext.trans ?_ (by assumption)))) hP27 tk hst _ _ _ _ (NN.nil _) (by first | assumption | omega | (rw [sz_zero]; omega))) ?_)
              rintro _ w28 ⟨rfl, r28, x28, hS28, hm28⟩
              refine WO_nil ?_
              refine thn_normal ?_
              refine W_ret ?_
              refine thn_ret ?_
              first | refine bodyQ_ret0 Hvac.results124 ?_ | refine bodyQ_end0 Hvac.results124 ?_
              have hX28 := (hX27.ext (by repeat (first | assumption | exact Ext.refl _ | refine Ext.alloc ?_ _ | refine Ext.drew ?_ | refine Ext.setB ?_ (by first | omega | (simp only [size_alloc, size_setB, size_drew]; omega)) _ | refine Ext.trans ?_ (by assumption)))).ftop (o := 0) hFp (hxf27 _) (FrM.ext hF27 (by repeat (first | assumption | exact Ext.refl _ | refine Ext.alloc ?_ _ | refine Ext.drew ?_ | refine Ext.setB ?_ (by first | omega | (simp only [size_alloc, size_setB, size_drew]; omega)) _ | refine Ext.trans ?_ (by assumption)))) hS28 hm28 rfl; have e9 : yenterCall y rest f o = (ycall1 y f, rest ++ [yanswer ({ ycallf f with gas := (ycallf f).gas + ycgas f o }) tk 0]) := (by unfold yenterCall; rw [if_pos hq9, htn]); rw [e9]; exact ⟨rfl, hX28.ret (((hK26.trans (KeepO.mono hS27.keep (fun b e => e ▸ hYF)) (fun _ _ e => e)).extR (by repeat (first | assumption | exact Ext.refl _ | refine Ext.alloc ?_ _ | refine Ext.drew ?_ | refine Ext.setB ?_ (by first | omega | (simp only [size_alloc, size_setB, size_drew]; omega)) _ | refine Ext.trans ?_ (by assumption)))).trans (KeepO.mono hS28.keep (fun b e => e ▸ hYF)) (fun _ _ e => e))⟩
            · have hb37p := hb37.h; try simp only [al_ete, al_dfn, Bool.not_eq_true', Bool.not_eq_false', al_ne, Bool.not_not, al_nn] at hb37p
              have hq9 : ¬ (6 ≤ rest.length ∨ (yacct y.now.accts f.self).bal < ycallv f o) := fun h9 => by rw [cmpI_lt2] at hb37p; rcases h9 with h9 | h9; exact hq6 h9; exact hb37p h9
              refine W_skip ?_
              refine thn_normal ?_
              refine W_seq ?_
              refine W_region rfl ?_
              refine WO_p (PS_move_ptr rfl) ?_
              refine WO_p (PS_move_ptr rfl) ?_
              refine WO_p (PS_move_int rfl) ?_
              refine WO_call Hvac.call47 (by rfl) (Ret.mono (yArg_spec _ (OmB.ext hO (by repeat (first | assumption | exact Ext.refl _ | refine Ext.alloc ?_ _ | refine Ext.drew ?_ | refine Ext.setB ?_ (by first | omega | (simp only [size_alloc, size_setB, size_drew]; omega)) _ | exact Ext.trans (by assumption) (by assumption) | refine Ext.trans ?_ (by assumption)))) _ _ _ _ (by first | assumption | exact FrS.ext (by assumption) (by repeat (first | assumption | exact Ext.refl _ | refine Ext.alloc ?_ _ | refine Ext.drew ?_ | refine Ext.setB ?_ (by first | omega | (simp only [size_alloc, size_setB, size_drew]; omega)) _ | exact Ext.trans (by assumption) (by assumption) | refine Ext.trans ?_ (by assumption)))) hP22 _ (by omega)) ?_)
              rintro _ w47_39 ⟨hE47_39, s47_39, rfl, hN47_39, hs47_39⟩
              have hz47_39 := hE47_39.1
              try simp only [size_alloc, size_setB, size_drew] at hz47_39
              refine WO_p (PS_move_ptr rfl) ?_
              refine WO_p (PS_move_int rfl) ?_
              refine WO_p (PS_add_i64n rfl rfl (by omega) (by omega)) ?_
              rw [show (((tk - 4 : Nat) : Int) + 1) = ((tk - 4 + 1 : Nat) : Int) by omega]
              refine WO_call Hvac.call47 (by rfl) (Ret.mono (yArg_spec _ (OmB.ext hO (by repeat (first | assumption | exact Ext.refl _ | refine Ext.alloc ?_ _ | refine Ext.drew ?_ | refine Ext.setB ?_ (by first | omega | (simp only [size_alloc, size_setB, size_drew]; omega)) _ | exact Ext.trans (by assumption) (by assumption) | refine Ext.trans ?_ (by assumption)))) _ _ _ _ (by first | assumption | exact FrS.ext (by assumption) (by repeat (first | assumption | exact Ext.refl _ | refine Ext.alloc ?_ _ | refine Ext.drew ?_ | refine Ext.setB ?_ (by first | omega | (simp only [size_alloc, size_setB, size_drew]; omega)) _ | exact Ext.trans (by assumption) (by assumption) | refine Ext.trans ?_ (by assumption)))) hP22 _ (by omega)) ?_)
              rintro _ w47_40 ⟨hE47_40, s47_40, rfl, hN47_40, hs47_40⟩
              have hz47_40 := hE47_40.1
              try simp only [size_alloc, size_setB, size_drew] at hz47_40
              refine WO_call Hvac.call46 (by rfl) (Ret.mono (yRead_spec _ (OmB.ext hO (by repeat (first | assumption | exact Ext.refl _ | refine Ext.alloc ?_ _ | refine Ext.drew ?_ | refine Ext.setB ?_ (by first | omega | (simp only [size_alloc, size_setB, size_drew]; omega)) _ | exact Ext.trans (by assumption) (by assumption) | refine Ext.trans ?_ (by assumption)))) _ _ _ _ (by first | assumption | exact FrS.ext (by assumption) (by repeat (first | assumption | exact Ext.refl _ | refine Ext.alloc ?_ _ | refine Ext.drew ?_ | refine Ext.setB ?_ (by first | omega | (simp only [size_alloc, size_setB, size_drew]; omega)) _ | exact Ext.trans (by assumption) (by assumption) | refine Ext.trans ?_ (by assumption)))) hP22 _ _ _ _ (by first | exact NN.nil _ | assumption | exact NN.ext (by assumption) (by repeat (first | assumption | exact Ext.refl _ | refine Ext.alloc ?_ _ | refine Ext.drew ?_ | refine Ext.setB ?_ (by first | omega | (simp only [size_alloc, size_setB, size_drew]; omega)) _ | exact Ext.trans (by assumption) (by assumption) | refine Ext.trans ?_ (by assumption)))) (by first | assumption | omega | (rw [sz_zero]; omega)) _ _ _ _ (by first | exact NN.nil _ | assumption | exact NN.ext (by assumption) (by repeat (first | assumption | exact Ext.refl _ | refine Ext.alloc ?_ _ | refine Ext.drew ?_ | refine Ext.setB ?_ (by first | omega | (simp only [size_alloc, size_setB, size_drew]; omega)) _ | exact Ext.trans (by assumption) (by assumption) | refine Ext.trans ?_ (by assumption)))) (by first | assumption | omega | (rw [sz_zero]; omega)) (by show yarg f (tk - 4 + 1) ≤ 100000000; omega)) ?_)
              rintro _ w29 ⟨hE29, s29, rfl, hN29⟩
              have hz29 := hE29.1
              try simp only [size_alloc, size_setB, size_drew] at hz29
              refine WO_p (PS_fieldAddr 11 Hvac.runUnderlying121 rfl Hvac.sizeOf32 rfl rfl) ?_
              refine WO_store1 Hvac.sizeOf32 rfl (v := .slice _ _ _) rfl (Hb.h (by repeat (first | assumption | exact Hb.newY _ _ | refine Hb.alloc ?_ | refine Hb.drew ?_ | refine Hb.ext (by assumption) ?_ | exact Hb.setSameL (by first | omega | (simp only [size_alloc, size_setB, size_drew]; omega)) | exact Hb.setSame (by assumption) | refine Hb.set (by first | omega | (simp only [size_alloc, size_setB, size_drew]; omega)) ?_ ))) rfl (by first | omega | (rw [encYF_sz hchs hchc]; omega) | (show _ < (encYF _).toArray.size; rw [encYF_sz (by exact hchs) (by exact hchc)]; omega)) rfl ?_
              rw [encYF_11 _ s29]
              try rw [setB_setB]
              refine WO_nil ?_
              refine thn_normal ?_
              refine W_seq ?_
              refine W_gen fun w30 hw30 => ?_
              have hX30 : YX Y w30 C (xsWarmA x s3) (ycall1 y f) (xs.set rest.length x22) (rest ++ [ycallf f]) := by rw [hw30]; exact (hX26.ext (by repeat (first | assumption | exact Ext.refl _ | refine Ext.alloc ?_ _ | refine Ext.drew ?_ | refine Ext.setB ?_ (by first | omega | (simp only [size_alloc, size_setB, size_drew]; omega)) _ | refine Ext.trans ?_ (by assumption)))).box (Hb.mk (Hb.h (by repeat (first | assumption | exact Hb.newY _ _ | refine Hb.alloc ?_ | refine Hb.drew ?_ | refine Hb.ext (by assumption) ?_ | exact Hb.setSameL (by first | omega | (simp only [size_alloc, size_setB, size_drew]; omega)) | exact Hb.setSame (by assumption) | refine Hb.set (by first | omega | (simp only [size_alloc, size_setB, size_drew]; omega)) ?_ )))) hneY
              have hF30 : FrM w30 F (rest.length * 60) r22 x22 (ycallf f) := by rw [hw30]; exact (hF26.ext (by repeat (first | assumption | exact Ext.refl _ | refine Ext.alloc ?_ _ | refine Ext.drew ?_ | refine Ext.setB ?_ (by first | omega | (simp only [size_alloc, size_setB, size_drew]; omega)) _ | refine Ext.trans ?_ (by assumption)))).box (Hb.mk (Hb.h (by repeat (first | assumption | exact Hb.newY _ _ | refine Hb.alloc ?_ | refine Hb.drew ?_ | refine Hb.ext (by assumption) ?_ | exact Hb.setSameL (by first | omega | (simp only [size_alloc, size_setB, size_drew]; omega)) | exact Hb.setSame (by assumption) | refine Hb.set (by first | omega | (simp only [size_alloc, size_setB, size_drew]; omega)) ?_ )))) hne13F
              have hK30 : KeepO Y w w30 := by rw [hw30]; exact KeepO.setB (hK26.extR (by repeat (first | assumption | exact Ext.refl _ | refine Ext.alloc ?_ _ | refine Ext.drew ?_ | refine Ext.setB ?_ (by first | omega | (simp only [size_alloc, size_setB, size_drew]; omega)) _ | refine Ext.trans ?_ (by assumption)))) (fun h9 => absurd h9 (by omega)) _
              have hb1330 : Hb w30 b13 (.cells (encYF { xch with gas := sg, inputY := s29 }).toArray 121 (0, 0)) := by rw [hw30]; exact Hb.mk (Hb.h (by repeat (first | assumption | exact Hb.newY _ _ | refine Hb.alloc ?_ | refine Hb.drew ?_ | refine Hb.ext (by assumption) ?_ | exact Hb.setSameL (by first | omega | (simp only [size_alloc, size_setB, size_drew]; omega)) | exact Hb.setSame (by assumption) | refine Hb.set (by first | omega | (simp only [size_alloc, size_setB, size_drew]; omega)) ?_ )))
              have hch30 : FrR w30 xch (ycch f o) := by rw [hw30]; exact FrR.b121 (FrR.ext hch26 (by repeat (first | assumption | exact Ext.refl _ | refine Ext.alloc ?_ _ | refine Ext.drew ?_ | refine Ext.setB ?_ (by first | omega | (simp only [size_alloc, size_setB, size_drew]; omega)) _ | refine Ext.trans ?_ (by assumption)))) (Hb.mk (Hb.h (by repeat (first | assumption | exact Hb.newY _ _ | refine Hb.alloc ?_ | refine Hb.drew ?_ | refine Hb.ext (by assumption) ?_ | exact Hb.setSameL (by first | omega | (simp only [size_alloc, size_setB, size_drew]; omega)) | exact Hb.setSame (by assumption) | refine Hb.set (by first | omega | (simp only [size_alloc, size_setB, size_drew]; omega)) ?_ ))))
              have hb1030 : Hb w30 b10 (.cells (ic .u8 (yaddr (yarg f 1))) 25 (0, 0)) := by rw [hw30]; exact Hb.mk (Hb.h (by repeat (first | assumption | exact Hb.newY _ _ | refine Hb.alloc ?_ | refine Hb.drew ?_ | refine Hb.ext (by assumption) ?_ | exact Hb.setSameL (by first | omega | (simp only [size_alloc, size_setB, size_drew]; omega)) | exact Hb.setSame (by assumption) | refine Hb.set (by first | omega | (simp only [size_alloc, size_setB, size_drew]; omega)) ?_ )))
              have hb10l30 := hb1030.lt
              have hNsg30 : NN w30 sg (ycgas f o) := by rw [hw30]; exact NN.b121 (NN.ext hNsg26 (by repeat (first | assumption | exact Ext.refl _ | refine Ext.alloc ?_ _ | refine Ext.drew ?_ | refine Ext.setB ?_ (by first | omega | (simp only [size_alloc, size_setB, size_drew]; omega)) _ | refine Ext.trans ?_ (by assumption)))) (Hb.mk (Hb.h (by repeat (first | assumption | exact Hb.newY _ _ | refine Hb.alloc ?_ | refine Hb.drew ?_ | refine Hb.ext (by assumption) ?_ | exact Hb.setSameL (by first | omega | (simp only [size_alloc, size_setB, size_drew]; omega)) | exact Hb.setSame (by assumption) | refine Hb.set (by first | omega | (simp only [size_alloc, size_setB, size_drew]; omega)) ?_ ))))
              have hP2930 : PB w30 s29 (ycut f.mem (yarg f (tk - 4)) (yarg f (tk - 4 + 1))) := by rw [hw30]; exact PB.b121 (PB.ext hN29 (by repeat (first | assumption | exact Ext.refl _ | refine Ext.alloc ?_ _ | refine Ext.drew ?_ | refine Ext.setB ?_ (by first | omega | (simp only [size_alloc, size_setB, size_drew]; omega)) _ | refine Ext.trans ?_ (by assumption)))) (Hb.mk (Hb.h (by repeat (first | assumption | exact Hb.newY _ _ | refine Hb.alloc ?_ | refine Hb.drew ?_ | refine Hb.ext (by assumption) ?_ | exact Hb.setSameL (by first | omega | (simp only [size_alloc, size_setB, size_drew]; omega)) | exact Hb.setSame (by assumption) | refine Hb.set (by first | omega | (simp only [size_alloc, size_setB, size_drew]; omega)) ?_ ))))
              clear hw30
              have hz30 := hK30.sz
              have hb13l30 := hb1330.lt
              replace hO := hX30.omb
              have hSS30 := hX30.ss
              have hSb30 := hSS30.blk
              have hSl30 := hSb30.lt
              have hFb30 := hF30.blk
              have hFl30 := hFb30.lt
              refine W_region rfl ?_
              refine WO_loadA _ Hvac.isAgg25 Hvac.sizeOf25 rfl (Hb.h (by repeat (first | assumption | exact Hb.newY _ _ | refine Hb.alloc ?_ | refine Hb.drew ?_ | refine Hb.ext (by assumption) ?_ | exact Hb.setSameL (by first | omega | (simp only [size_alloc, size_setB, size_drew]; omega)) | exact Hb.setSame (by assumption) | refine Hb.set (by first | omega | (simp only [size_alloc, size_setB, size_drew]; omega)) ?_ ))) (by first | omega | assumption | rfl | decide | exact Nat.le_refl _ | (simp only [size_ic, Value.cells]; omega) | (simp [encWs]; done) | (simp; omega) | simp | exact encYA_sz (by assumption) | exact encYT_sz (by assumption) | exact encYM_sz (by assumption)) (Xt.h (by first | assumption | exact Xt.whole rfl rfl | exact Xt.whole rfl (by assumption) | exact Xt.whole rfl (by simp only [size_ic, Value.cells]; omega) | exact ⟨rfl⟩)) ?_
              refine WO_call Hvac.call30 (by rfl) (Ret.mono (yNativeAt_spec _ (yaddr_by _) _) ?_)
              rintro _ w30_42 ⟨hE30_42, rfl⟩
              have hz30_42 := hE30_42.1
              try simp only [size_alloc, size_setB, size_drew] at hz30_42
              refine WO_p (PS_fieldAddr 1 Hvac.runUnderlying121 rfl Hvac.sizeOf5 rfl rfl) ?_
              refine WO_store1 Hvac.sizeOf5 rfl (v := .int _ _) rfl (Hb.h (by repeat (first | assumption | exact Hb.newY _ _ | refine Hb.alloc ?_ | refine Hb.drew ?_ | refine Hb.ext (by assumption) ?_ | exact Hb.setSameL (by first | omega | (simp only [size_alloc, size_setB, size_drew]; omega)) | exact Hb.setSame (by assumption) | refine Hb.set (by first | omega | (simp only [size_alloc, size_setB, size_drew]; omega)) ?_ ))) rfl (by first | omega | (rw [encYF_sz hchs hchc]; omega) | (show _ < (encYF _).toArray.size; rw [encYF_sz (by exact hchs) (by exact hchc)]; omega)) rfl ?_
              rw [encYF_1 _ (ynative (yaddr (yarg f 1)))]
              try rw [setB_setB]
              refine WO_nil ?_
              refine thn_normal ?_
              refine W_seqJ (fun ρ w' => ∃ (sc : SV), Fr [(0, .pointer (some ⟨C, 0, none⟩)), (1, .pointer (some ⟨F, rest.length * 60, none⟩)), (6, .int .i64 (tk : Int)), (12, .int .i64 ((tk - 4 : Nat) : Int)), (13, .pointer (some ⟨b13, 0, none⟩))] ρ ∧ YX Y w' C (xsWarmA x s3) (ycall1 y f) (xs.set rest.length x22) (rest ++ [ycallf f]) ∧ FrM w' F (rest.length * 60) r22 x22 (ycallf f) ∧ KeepO Y w w' ∧ Hb w' b13 (.cells (encYF { xch with gas := sg, inputY := s29, nat := ynative (yaddr (yarg f 1)), code := sc }).toArray 121 (0, 0)) ∧ PB w' s29 (ycut f.mem (yarg f (tk - 4)) (yarg f (tk - 4 + 1))) ∧ NN w' sg (ycgas f o) ∧ PB w' sc (if ynative (yaddr (yarg f 1)) = 0 then (yacct y.now.accts (yaddr (yarg f 1))).code else []) ∧ FrR w' xch (ycch f o)) ?_ ?_
              · skip
                refine W_seq ?_
                refine W_gen fun w31 hw31 => ?_
                have hX31 : YX Y w31 C (xsWarmA x s3) (ycall1 y f) (xs.set rest.length x22) (rest ++ [ycallf f]) := by rw [hw31]; exact (hX30.ext (by repeat (first | assumption | exact Ext.refl _ | refine Ext.alloc ?_ _ | refine Ext.drew ?_ | refine Ext.setB ?_ (by first | omega | (simp only [size_alloc, size_setB, size_drew]; omega)) _ | refine Ext.trans ?_ (by assumption)))).box (Hb.mk (Hb.h (by repeat (first | assumption | exact Hb.newY _ _ | refine Hb.alloc ?_ | refine Hb.drew ?_ | refine Hb.ext (by assumption) ?_ | exact Hb.setSameL (by first | omega | (simp only [size_alloc, size_setB, size_drew]; omega)) | exact Hb.setSame (by assumption) | refine Hb.set (by first | omega | (simp only [size_alloc, size_setB, size_drew]; omega)) ?_ )))) hneY
                have hF31 : FrM w31 F (rest.length * 60) r22 x22 (ycallf f) := by rw [hw31]; exact (hF30.ext (by repeat (first | assumption | exact Ext.refl _ | refine Ext.alloc ?_ _ | refine Ext.drew ?_ | refine Ext.setB ?_ (by first | omega | (simp only [size_alloc, size_setB, size_drew]; omega)) _ | refine Ext.trans ?_ (by assumption)))).box (Hb.mk (Hb.h (by repeat (first | assumption | exact Hb.newY _ _ | refine Hb.alloc ?_ | refine Hb.drew ?_ | refine Hb.ext (by assumption) ?_ | exact Hb.setSameL (by first | omega | (simp only [size_alloc, size_setB, size_drew]; omega)) | exact Hb.setSame (by assumption) | refine Hb.set (by first | omega | (simp only [size_alloc, size_setB, size_drew]; omega)) ?_ )))) hne13F
                have hK31 : KeepO Y w w31 := by rw [hw31]; exact KeepO.setB (hK30.extR (by repeat (first | assumption | exact Ext.refl _ | refine Ext.alloc ?_ _ | refine Ext.drew ?_ | refine Ext.setB ?_ (by first | omega | (simp only [size_alloc, size_setB, size_drew]; omega)) _ | refine Ext.trans ?_ (by assumption)))) (fun h9 => absurd h9 (by omega)) _
                have hb1331 : Hb w31 b13 (.cells (encYF { xch with gas := sg, inputY := s29, nat := ynative (yaddr (yarg f 1)) }).toArray 121 (0, 0)) := by rw [hw31]; exact Hb.mk (Hb.h (by repeat (first | assumption | exact Hb.newY _ _ | refine Hb.alloc ?_ | refine Hb.drew ?_ | refine Hb.ext (by assumption) ?_ | exact Hb.setSameL (by first | omega | (simp only [size_alloc, size_setB, size_drew]; omega)) | exact Hb.setSame (by assumption) | refine Hb.set (by first | omega | (simp only [size_alloc, size_setB, size_drew]; omega)) ?_ )))
                have hch31 : FrR w31 xch (ycch f o) := by rw [hw31]; exact FrR.b121 (FrR.ext hch30 (by repeat (first | assumption | exact Ext.refl _ | refine Ext.alloc ?_ _ | refine Ext.drew ?_ | refine Ext.setB ?_ (by first | omega | (simp only [size_alloc, size_setB, size_drew]; omega)) _ | refine Ext.trans ?_ (by assumption)))) (Hb.mk (Hb.h (by repeat (first | assumption | exact Hb.newY _ _ | refine Hb.alloc ?_ | refine Hb.drew ?_ | refine Hb.ext (by assumption) ?_ | exact Hb.setSameL (by first | omega | (simp only [size_alloc, size_setB, size_drew]; omega)) | exact Hb.setSame (by assumption) | refine Hb.set (by first | omega | (simp only [size_alloc, size_setB, size_drew]; omega)) ?_ ))))
                have hb1031 : Hb w31 b10 (.cells (ic .u8 (yaddr (yarg f 1))) 25 (0, 0)) := by rw [hw31]; exact Hb.mk (Hb.h (by repeat (first | assumption | exact Hb.newY _ _ | refine Hb.alloc ?_ | refine Hb.drew ?_ | refine Hb.ext (by assumption) ?_ | exact Hb.setSameL (by first | omega | (simp only [size_alloc, size_setB, size_drew]; omega)) | exact Hb.setSame (by assumption) | refine Hb.set (by first | omega | (simp only [size_alloc, size_setB, size_drew]; omega)) ?_ )))
                have hb10l31 := hb1031.lt
                have hNsg31 : NN w31 sg (ycgas f o) := by rw [hw31]; exact NN.b121 (NN.ext hNsg30 (by repeat (first | assumption | exact Ext.refl _ | refine Ext.alloc ?_ _ | refine Ext.drew ?_ | refine Ext.setB ?_ (by first | omega | (simp only [size_alloc, size_setB, size_drew]; omega)) _ | refine Ext.trans ?_ (by assumption)))) (Hb.mk (Hb.h (by repeat (first | assumption | exact Hb.newY _ _ | refine Hb.alloc ?_ | refine Hb.drew ?_ | refine Hb.ext (by assumption) ?_ | exact Hb.setSameL (by first | omega | (simp only [size_alloc, size_setB, size_drew]; omega)) | exact Hb.setSame (by assumption) | refine Hb.set (by first | omega | (simp only [size_alloc, size_setB, size_drew]; omega)) ?_ ))))
                have hP2931 : PB w31 s29 (ycut f.mem (yarg f (tk - 4)) (yarg f (tk - 4 + 1))) := by rw [hw31]; exact PB.b121 (PB.ext hP2930 (by repeat (first | assumption | exact Ext.refl _ | refine Ext.alloc ?_ _ | refine Ext.drew ?_ | refine Ext.setB ?_ (by first | omega | (simp only [size_alloc, size_setB, size_drew]; omega)) _ | refine Ext.trans ?_ (by assumption)))) (Hb.mk (Hb.h (by repeat (first | assumption | exact Hb.newY _ _ | refine Hb.alloc ?_ | refine Hb.drew ?_ | refine Hb.ext (by assumption) ?_ | exact Hb.setSameL (by first | omega | (simp only [size_alloc, size_setB, size_drew]; omega)) | exact Hb.setSame (by assumption) | refine Hb.set (by first | omega | (simp only [size_alloc, size_setB, size_drew]; omega)) ?_ ))))
                clear hw31
                have hz31 := hK31.sz
                have hb13l31 := hb1331.lt
                replace hO := hX31.omb
                have hSS31 := hX31.ss
                have hSb31 := hSS31.blk
                have hSl31 := hSb31.lt
                have hFb31 := hF31.blk
                have hFl31 := hFb31.lt
                have hnk31 : Ce (encYF { xch with gas := sg, inputY := s29, nat := ynative (yaddr (yarg f 1)) }).toArray (0 + 1) (.int .u8 (ynative (yaddr (yarg f 1)))) := ⟨rfl⟩
                have hnb31 := ynative_bd (yaddr (yarg f 1))
                have hszN : (encYF { xch with gas := sg, inputY := s29, nat := ynative (yaddr (yarg f 1)) }).toArray.size = 60 := encYF_sz (x := { xch with gas := sg, inputY := s29, nat := ynative (yaddr (yarg f 1)) }) hchs hchc
                refine W_region rfl ?_
                refine WO_p (PS_fieldAddr 1 Hvac.runUnderlying121 rfl Hvac.sizeOf5 rfl rfl) ?_
                refine WO_load (.int _ _) Hvac.isAgg5 rfl (Hb.h (by repeat (first | assumption | exact Hb.newY _ _ | refine Hb.alloc ?_ | refine Hb.drew ?_ | refine Hb.ext (by assumption) ?_ | exact Hb.setSameL (by first | omega | (simp only [size_alloc, size_setB, size_drew]; omega)) | exact Hb.setSame (by assumption) | refine Hb.set (by first | omega | (simp only [size_alloc, size_setB, size_drew]; omega)) ?_ ))) (Ce.h (by first | assumption | exact ⟨rfl⟩)) ?_
                refine WO_p (PS_eql rfl rfl) ?_
                refine WO_nil ?_
                refine thn_normal ?_
                refine W_if rfl (fun hb45 => ?_) (fun hb45 => ?_)
                · have hb45p := hb45.h; try simp only [al_ete, al_dfn, Bool.not_eq_true', Bool.not_eq_false', al_ne, Bool.not_not, al_nn] at hb45p
                  have hn9 : ynative (yaddr (yarg f 1)) = 0 := by omega
                  refine W_drawE [false, false, false, false, false, false, false, false, false] hmix (by kernel_rfl) rfl ?_
                  refine WH_p (PS_move_ptr rfl) rfl ?_
                  refine WH_p (PS_nilCheck rfl) rfl ?_
                  refine WH_p (PS_fieldAddr 0 Hvac.runUnderlying99 rfl Hvac.sizeOf95 rfl rfl) rfl ?_
                  refine WH_loadA _ Hvac.isAgg25 Hvac.sizeOf25 rfl (Hb.h (by repeat (first | assumption | exact Hb.newY _ _ | refine Hb.alloc ?_ | refine Hb.drew ?_ | refine Hb.ext (by assumption) ?_ | exact Hb.setSameL (by first | omega | (simp only [size_alloc, size_setB, size_drew]; omega)) | exact Hb.setSame (by assumption) | refine Hb.set (by first | omega | (simp only [size_alloc, size_setB, size_drew]; omega)) ?_ ))) (by first | omega | assumption | rfl | decide | exact Nat.le_refl _ | (simp only [size_ic, Value.cells]; omega) | (simp [encWs]; done) | (simp; omega) | simp | exact encYA_sz (by assumption) | exact encYT_sz (by assumption) | exact encYM_sz (by assumption)) (Xt.h (by first | assumption | exact Xt.whole rfl rfl | exact Xt.whole rfl (by assumption) | exact Xt.whole rfl (by simp only [size_ic, Value.cells]; omega) | exact ⟨rfl⟩)) ?_
                  refine WH_call Hvac.call17 (by rfl) (Ret.mono (acctS (OmB.ext hO (by repeat (first | assumption | exact Ext.refl _ | refine Ext.alloc ?_ _ | refine Ext.drew ?_ | refine Ext.setB ?_ (by first | omega | (simp only [size_alloc, size_setB, size_drew]; omega)) _ | exact Ext.trans (by assumption) (by assumption) | refine Ext.trans ?_ (by assumption)))) (by first | assumption | exact YSS.ext (by assumption) (by repeat (first | assumption | exact Ext.refl _ | refine Ext.alloc ?_ _ | refine Ext.drew ?_ | refine Ext.setB ?_ (by first | omega | (simp only [size_alloc, size_setB, size_drew]; omega)) _ | exact Ext.trans (by assumption) (by assumption) | refine Ext.trans ?_ (by assumption)))) hB3 (by omega) (yaddr_by (yarg f 1))) ?_)
                  rintro _ w17_45 ⟨hE17_45, x32, rfl, hxax32, hxrx32⟩
                  refine ⟨(fun h => by cases h), ?_⟩
                  have hz17_45 := hE17_45.1
                  try simp only [size_alloc, size_setB, size_drew] at hz17_45
                  have hxlx32 : x32.addr.length = 20 := by rw [hxax32]; exact ((yaddr_by (yarg f 1))).1
                  have hszx32 : (encYA x32).toArray.size = 24 := by simpa using encYA_len hxlx32
                  have hc2x32 := encYA_2 hxlx32
                  have hc3x32 := encYA_3 hxlx32
                  have hcp32 : PB w17_45 x32.code (yacct y.now.accts (yaddr (yarg f 1))).code := hxrx32.code
                  have hcl32 := hB.now.cd.acct (yaddr (yarg f 1))
                  have hcn32 := PB.len hcp32
                  refine WH_p (PS_field (.slice _ _ _) 22 Hvac.runUnderlying104 rfl Hvac.isAgg32 rfl rfl (Ce.h (by first | assumption | exact ⟨rfl⟩))) rfl ?_
                  refine WH_call Hvac.call31 (by rfl) (Ret.mono (yBytesOf_spec _ (OmB.ext hO (by repeat (first | assumption | exact Ext.refl _ | refine Ext.alloc ?_ _ | refine Ext.drew ?_ | refine Ext.setB ?_ (by first | omega | (simp only [size_alloc, size_setB, size_drew]; omega)) _ | exact Ext.trans (by assumption) (by assumption) | refine Ext.trans ?_ (by assumption)))) _ _ _ _ (by first | assumption | exact AB.ext (by assumption) (by repeat (first | assumption | exact Ext.refl _ | refine Ext.alloc ?_ _ | refine Ext.drew ?_ | refine Ext.setB ?_ (by first | omega | (simp only [size_alloc, size_setB, size_drew]; omega)) _ | exact Ext.trans (by assumption) (by assumption) | refine Ext.trans ?_ (by assumption))) | exact PB.ab (by assumption) | exact PB.ab (PB.ext (by assumption) (by repeat (first | assumption | exact Ext.refl _ | refine Ext.alloc ?_ _ | refine Ext.drew ?_ | refine Ext.setB ?_ (by first | omega | (simp only [size_alloc, size_setB, size_drew]; omega)) _ | exact Ext.trans (by assumption) (by assumption) | refine Ext.trans ?_ (by assumption))))) (by omega)) ?_)
                  rintro _ w31_46 ⟨hE31_46, s32, rfl, hN32⟩
                  refine ⟨(fun h => by cases h), ?_⟩
                  have hz31_46 := hE31_46.1
                  try simp only [size_alloc, size_setB, size_drew] at hz31_46
                  refine WH_p (PS_fieldAddr 10 Hvac.runUnderlying121 rfl Hvac.sizeOf32 rfl rfl) rfl ?_
                  refine WH_store1 Hvac.sizeOf32 rfl (v := .slice _ _ _) rfl (Hb.h (by repeat (first | assumption | exact Hb.newY _ _ | refine Hb.alloc ?_ | refine Hb.drew ?_ | refine Hb.ext (by assumption) ?_ | exact Hb.setSameL (by first | omega | (simp only [size_alloc, size_setB, size_drew]; omega)) | exact Hb.setSame (by assumption) | refine Hb.set (by first | omega | (simp only [size_alloc, size_setB, size_drew]; omega)) ?_ ))) rfl (by first | omega | (rw [encYF_sz hchs hchc]; omega) | (show _ < (encYF _).toArray.size; rw [encYF_sz (by exact hchs) (by exact hchc)]; omega)) rfl (fun h => by cases h) ?_
                  rw [encYF_10 _ s32]
                  try rw [setB_setB]
                  refine WH_nil ?_
                  refine thn_normal ?_
                  rw [if_pos hn9]; exact ⟨s32, ⟨rfl, rfl, rfl, rfl, rfl, trivial⟩, (hX31.ext (by repeat (first | assumption | exact Ext.refl _ | refine Ext.alloc ?_ _ | refine Ext.drew ?_ | refine Ext.setB ?_ (by first | omega | (simp only [size_alloc, size_setB, size_drew]; omega)) _ | refine Ext.trans ?_ (by assumption)))).box (Hb.mk (Hb.h (by repeat (first | assumption | exact Hb.newY _ _ | refine Hb.alloc ?_ | refine Hb.drew ?_ | refine Hb.ext (by assumption) ?_ | exact Hb.setSameL (by first | omega | (simp only [size_alloc, size_setB, size_drew]; omega)) | exact Hb.setSame (by assumption) | refine Hb.set (by first | omega | (simp only [size_alloc, size_setB, size_drew]; omega)) ?_ )))) hneY, (hF31.ext (by repeat (first | assumption | exact Ext.refl _ | refine Ext.alloc ?_ _ | refine Ext.drew ?_ | refine Ext.setB ?_ (by first | omega | (simp only [size_alloc, size_setB, size_drew]; omega)) _ | refine Ext.trans ?_ (by assumption)))).box (Hb.mk (Hb.h (by repeat (first | assumption | exact Hb.newY _ _ | refine Hb.alloc ?_ | refine Hb.drew ?_ | refine Hb.ext (by assumption) ?_ | exact Hb.setSameL (by first | omega | (simp only [size_alloc, size_setB, size_drew]; omega)) | exact Hb.setSame (by assumption) | refine Hb.set (by first | omega | (simp only [size_alloc, size_setB, size_drew]; omega)) ?_ )))) hne13F, KeepO.setB (hK31.extR (by repeat (first | assumption | exact Ext.refl _ | refine Ext.alloc ?_ _ | refine Ext.drew ?_ | refine Ext.setB ?_ (by first | omega | (simp only [size_alloc, size_setB, size_drew]; omega)) _ | refine Ext.trans ?_ (by assumption)))) (fun h9 => absurd h9 (by omega)) _, Hb.mk (Hb.h (by repeat (first | assumption | exact Hb.newY _ _ | refine Hb.alloc ?_ | refine Hb.drew ?_ | refine Hb.ext (by assumption) ?_ | exact Hb.setSameL (by first | omega | (simp only [size_alloc, size_setB, size_drew]; omega)) | exact Hb.setSame (by assumption) | refine Hb.set (by first | omega | (simp only [size_alloc, size_setB, size_drew]; omega)) ?_ ))), PB.b121 (PB.ext hP2931 (by repeat (first | assumption | exact Ext.refl _ | refine Ext.alloc ?_ _ | refine Ext.drew ?_ | refine Ext.setB ?_ (by first | omega | (simp only [size_alloc, size_setB, size_drew]; omega)) _ | refine Ext.trans ?_ (by assumption)))) (Hb.mk (Hb.h (by repeat (first | assumption | exact Hb.newY _ _ | refine Hb.alloc ?_ | refine Hb.drew ?_ | refine Hb.ext (by assumption) ?_ | exact Hb.setSameL (by first | omega | (simp only [size_alloc, size_setB, size_drew]; omega)) | exact Hb.setSame (by assumption) | refine Hb.set (by first | omega | (simp only [size_alloc, size_setB, size_drew]; omega)) ?_ )))), NN.b121 (NN.ext hNsg31 (by repeat (first | assumption | exact Ext.refl _ | refine Ext.alloc ?_ _ | refine Ext.drew ?_ | refine Ext.setB ?_ (by first | omega | (simp only [size_alloc, size_setB, size_drew]; omega)) _ | refine Ext.trans ?_ (by assumption)))) (Hb.mk (Hb.h (by repeat (first | assumption | exact Hb.newY _ _ | refine Hb.alloc ?_ | refine Hb.drew ?_ | refine Hb.ext (by assumption) ?_ | exact Hb.setSameL (by first | omega | (simp only [size_alloc, size_setB, size_drew]; omega)) | exact Hb.setSame (by assumption) | refine Hb.set (by first | omega | (simp only [size_alloc, size_setB, size_drew]; omega)) ?_ )))), PB.b121 hN32 (Hb.mk (Hb.h (by repeat (first | assumption | exact Hb.newY _ _ | refine Hb.alloc ?_ | refine Hb.drew ?_ | refine Hb.ext (by assumption) ?_ | exact Hb.setSameL (by first | omega | (simp only [size_alloc, size_setB, size_drew]; omega)) | exact Hb.setSame (by assumption) | refine Hb.set (by first | omega | (simp only [size_alloc, size_setB, size_drew]; omega)) ?_ )))), FrR.b121 (FrR.ext hch31 (by repeat (first | assumption | exact Ext.refl _ | refine Ext.alloc ?_ _ | refine Ext.drew ?_ | refine Ext.setB ?_ (by first | omega | (simp only [size_alloc, size_setB, size_drew]; omega)) _ | refine Ext.trans ?_ (by assumption)))) (Hb.mk (Hb.h (by repeat (first | assumption | exact Hb.newY _ _ | refine Hb.alloc ?_ | refine Hb.drew ?_ | refine Hb.ext (by assumption) ?_ | exact Hb.setSameL (by first | omega | (simp only [size_alloc, size_setB, size_drew]; omega)) | exact Hb.setSame (by assumption) | refine Hb.set (by first | omega | (simp only [size_alloc, size_setB, size_drew]; omega)) ?_ ))))⟩
                · have hb45p := hb45.h; try simp only [al_ete, al_dfn, Bool.not_eq_true', Bool.not_eq_false', al_ne, Bool.not_not, al_nn] at hb45p
                  have hn9 : ¬ ynative (yaddr (yarg f 1)) = 0 := by omega
                  refine W_skip ?_
                  refine thn_normal ?_
                  rw [if_neg hn9]; exact ⟨xch.code, ⟨rfl, rfl, rfl, rfl, rfl, trivial⟩, hX31.ext (by repeat (first | assumption | exact Ext.refl _ | refine Ext.alloc ?_ _ | refine Ext.drew ?_ | refine Ext.setB ?_ (by first | omega | (simp only [size_alloc, size_setB, size_drew]; omega)) _ | refine Ext.trans ?_ (by assumption))), hF31.ext (by repeat (first | assumption | exact Ext.refl _ | refine Ext.alloc ?_ _ | refine Ext.drew ?_ | refine Ext.setB ?_ (by first | omega | (simp only [size_alloc, size_setB, size_drew]; omega)) _ | refine Ext.trans ?_ (by assumption))), hK31.extR (by repeat (first | assumption | exact Ext.refl _ | refine Ext.alloc ?_ _ | refine Ext.drew ?_ | refine Ext.setB ?_ (by first | omega | (simp only [size_alloc, size_setB, size_drew]; omega)) _ | refine Ext.trans ?_ (by assumption))), Hb.mk (Hb.h (by repeat (first | assumption | exact Hb.newY _ _ | refine Hb.alloc ?_ | refine Hb.drew ?_ | refine Hb.ext (by assumption) ?_ | exact Hb.setSameL (by first | omega | (simp only [size_alloc, size_setB, size_drew]; omega)) | exact Hb.setSame (by assumption) | refine Hb.set (by first | omega | (simp only [size_alloc, size_setB, size_drew]; omega)) ?_ ))), PB.ext hP2931 (by repeat (first | assumption | exact Ext.refl _ | refine Ext.alloc ?_ _ | refine Ext.drew ?_ | refine Ext.setB ?_ (by first | omega | (simp only [size_alloc, size_setB, size_drew]; omega)) _ | refine Ext.trans ?_ (by assumption))), NN.ext hNsg31 (by repeat (first | assumption | exact Ext.refl _ | refine Ext.alloc ?_ _ | refine Ext.drew ?_ | refine Ext.setB ?_ (by first | omega | (simp only [size_alloc, size_setB, size_drew]; omega)) _ | refine Ext.trans ?_ (by assumption))), PB.ext hch31.code (by repeat (first | assumption | exact Ext.refl _ | refine Ext.alloc ?_ _ | refine Ext.drew ?_ | refine Ext.setB ?_ (by first | omega | (simp only [size_alloc, size_setB, size_drew]; omega)) _ | refine Ext.trans ?_ (by assumption))), FrR.ext hch31 (by repeat (first | assumption | exact Ext.refl _ | refine Ext.alloc ?_ _ | refine Ext.drew ?_ | refine Ext.setB ?_ (by first | omega | (simp only [size_alloc, size_setB, size_drew]; omega)) _ | refine Ext.trans ?_ (by assumption)))⟩
              · rintro ρ33 w33 ⟨sc, hFr33, hX33, hF33, hK33, hb1333, hP2933, hNsg33, hPc33, hch33⟩
                refine W_env _ hFr33 ?_
                have hz33 := hK33.sz
                have hb13l33 := hb1333.lt
                replace hO := hX33.omb
                have hFb33 := hF33.blk
                have hFl33 := hFb33.lt
                have hSf33 := hF33.s0
                refine W_seq ?_
                refine W_region rfl ?_
                refine WO_p (PS_move_ptr rfl) ?_
                refine WO_p (PS_move_int rfl) ?_
                refine WO_p (PS_move_ptr rfl) ?_
                refine WO_p (PS_move_int rfl) ?_
                refine WO_p (PS_add_i64n rfl rfl (by omega) (by omega)) ?_
                rw [show (((tk - 4 : Nat) : Int) + 2) = ((tk - 4 + 2 : Nat) : Int) by omega]
                refine WO_call Hvac.call47 (by rfl) (Ret.mono (yArg_spec _ (OmB.ext hO (by repeat (first | assumption | exact Ext.refl _ | refine Ext.alloc ?_ _ | refine Ext.drew ?_ | refine Ext.setB ?_ (by first | omega | (simp only [size_alloc, size_setB, size_drew]; omega)) _ | exact Ext.trans (by assumption) (by assumption) | refine Ext.trans ?_ (by assumption)))) _ _ _ _ (by first | assumption | exact FrS.ext (by assumption) (by repeat (first | assumption | exact Ext.refl _ | refine Ext.alloc ?_ _ | refine Ext.drew ?_ | refine Ext.setB ?_ (by first | omega | (simp only [size_alloc, size_setB, size_drew]; omega)) _ | exact Ext.trans (by assumption) (by assumption) | refine Ext.trans ?_ (by assumption)))) hP22 _ (by omega)) ?_)
                rintro _ w47_47 ⟨hE47_47, s47_47, rfl, hN47_47, hs47_47⟩
                have hz47_47 := hE47_47.1
                try simp only [size_alloc, size_setB, size_drew] at hz47_47
                refine WO_p (PS_move_ptr rfl) ?_
                refine WO_p (PS_move_int rfl) ?_
                refine WO_p (PS_add_i64n rfl rfl (by omega) (by omega)) ?_
                rw [show (((tk - 4 : Nat) : Int) + 3) = ((tk - 4 + 3 : Nat) : Int) by omega]
                refine WO_call Hvac.call47 (by rfl) (Ret.mono (yArg_spec _ (OmB.ext hO (by repeat (first | assumption | exact Ext.refl _ | refine Ext.alloc ?_ _ | refine Ext.drew ?_ | refine Ext.setB ?_ (by first | omega | (simp only [size_alloc, size_setB, size_drew]; omega)) _ | exact Ext.trans (by assumption) (by assumption) | refine Ext.trans ?_ (by assumption)))) _ _ _ _ (by first | assumption | exact FrS.ext (by assumption) (by repeat (first | assumption | exact Ext.refl _ | refine Ext.alloc ?_ _ | refine Ext.drew ?_ | refine Ext.setB ?_ (by first | omega | (simp only [size_alloc, size_setB, size_drew]; omega)) _ | exact Ext.trans (by assumption) (by assumption) | refine Ext.trans ?_ (by assumption)))) hP22 _ (by omega)) ?_)
                rintro _ w47_48 ⟨hE47_48, s47_48, rfl, hN47_48, hs47_48⟩
                have hz47_48 := hE47_48.1
                try simp only [size_alloc, size_setB, size_drew] at hz47_48
                refine WO_call Hvac.call201 (by rfl) (Ret.mono (yWait_spec _ (OmB.ext hO (by repeat (first | assumption | exact Ext.refl _ | refine Ext.alloc ?_ _ | refine Ext.drew ?_ | refine Ext.setB ?_ (by first | omega | (simp only [size_alloc, size_setB, size_drew]; omega)) _ | exact Ext.trans (by assumption) (by assumption) | refine Ext.trans ?_ (by assumption)))) _ _ _ _ _ (FrM.ext hF33 (by repeat (first | assumption | exact Ext.refl _ | refine Ext.alloc ?_ _ | refine Ext.drew ?_ | refine Ext.setB ?_ (by first | omega | (simp only [size_alloc, size_setB, size_drew]; omega)) _ | exact Ext.trans (by assumption) (by assumption) | refine Ext.trans ?_ (by assumption)))) hP22 tk hst _ _ _ _ (by first | exact NN.nil _ | assumption | exact NN.ext (by assumption) (by repeat (first | assumption | exact Ext.refl _ | refine Ext.alloc ?_ _ | refine Ext.drew ?_ | refine Ext.setB ?_ (by first | omega | (simp only [size_alloc, size_setB, size_drew]; omega)) _ | exact Ext.trans (by assumption) (by assumption) | refine Ext.trans ?_ (by assumption)))) (by first | assumption | omega | (rw [sz_zero]; omega)) _ _ _ _ (by first | exact NN.nil _ | assumption | exact NN.ext (by assumption) (by repeat (first | assumption | exact Ext.refl _ | refine Ext.alloc ?_ _ | refine Ext.drew ?_ | refine Ext.setB ?_ (by first | omega | (simp only [size_alloc, size_setB, size_drew]; omega)) _ | exact Ext.trans (by assumption) (by assumption) | refine Ext.trans ?_ (by assumption)))) (by first | assumption | omega | (rw [sz_zero]; omega))) ?_)
                rintro _ w34 ⟨rfl, r34, x34, hS34, hm34⟩
                have hX34 := (hX33.ext (by repeat (first | assumption | exact Ext.refl _ | refine Ext.alloc ?_ _ | refine Ext.drew ?_ | refine Ext.setB ?_ (by first | omega | (simp only [size_alloc, size_setB, size_drew]; omega)) _ | refine Ext.trans ?_ (by assumption)))).ftop (o := 0) hFp hxf22 (FrM.ext hF33 (by repeat (first | assumption | exact Ext.refl _ | refine Ext.alloc ?_ _ | refine Ext.drew ?_ | refine Ext.setB ?_ (by first | omega | (simp only [size_alloc, size_setB, size_drew]; omega)) _ | refine Ext.trans ?_ (by assumption)))) hS34 hm34 rfl
                have hb1334 : Hb w34 b13 (.cells (encYF { xch with gas := sg, inputY := s29, nat := ynative (yaddr (yarg f 1)), code := sc }).toArray 121 (0, 0)) := Hb.keepO hS34.keep (fun e => absurd e hne13F) (Hb.mk (Hb.h (by repeat (first | assumption | exact Hb.newY _ _ | refine Hb.alloc ?_ | refine Hb.drew ?_ | refine Hb.ext (by assumption) ?_ | exact Hb.setSameL (by first | omega | (simp only [size_alloc, size_setB, size_drew]; omega)) | exact Hb.setSame (by assumption) | refine Hb.set (by first | omega | (simp only [size_alloc, size_setB, size_drew]; omega)) ?_ ))))
                have hKf : KeepO (fun b => b = F) w33 w34 := (Ext.keepO (by repeat (first | assumption | exact Ext.refl _ | refine Ext.alloc ?_ _ | refine Ext.drew ?_ | refine Ext.setB ?_ (by first | omega | (simp only [size_alloc, size_setB, size_drew]; omega)) _ | refine Ext.trans ?_ (by assumption))) _).trans hS34.keep (fun _ _ e => e)
                have hKfo := hKf.om (fun b _ e => (e ▸ hFo : Om.p b))
                have hch34 : FrR w34 { xch with gas := sg, inputY := s29, nat := ynative (yaddr (yarg f 1)), code := sc } (ycallx y f o) := by
                  have h9 := ((((hch33.keep hKfo (KT.kf hF33.blk hKf (by decide))).sGas (NN.keep hNsg33 hKfo)).sInput (PB.keep hP2933 hKfo)).sNat (n := ynative (yaddr (yarg f 1)))).sCode (PB.keep hPc33 hKfo)
                  unfold ycallx; rw [hckn]; exact h9
                have hb13l34 := hb1334.lt
                replace hO := hX34.omb
                have hK34 : KeepO Y w w34 := (hK33.extR (by repeat (first | assumption | exact Ext.refl _ | refine Ext.alloc ?_ _ | refine Ext.drew ?_ | refine Ext.setB ?_ (by first | omega | (simp only [size_alloc, size_setB, size_drew]; omega)) _ | refine Ext.trans ?_ (by assumption)))).trans (KeepO.mono hS34.keep (fun b e => e ▸ hYF)) (fun _ _ e => e)
                have hszK : (encYF { xch with gas := sg, inputY := s29, nat := ynative (yaddr (yarg f 1)), code := sc }).toArray.size = 60 := encYF_sz (x := { xch with gas := sg, inputY := s29, nat := ynative (yaddr (yarg f 1)), code := sc }) hchs hchc
                have hcv34 : sz (ycallx y f o).value ≤ 32 := by show sz (ycch f o).value ≤ 32; show sz (if o = 244 then f.value else ycallv f o) ≤ 32; split; exact hfv; exact hz11
                have hck34 : (ycallx y f o).kind ≤ 255 := by show (if o = 242 then 7 else if o = 244 then 3 else if o = 250 then 4 else 2) ≤ 255; repeat (first | omega | split)
                refine WO_nil ?_
                refine thn_normal ?_
                refine W_region rfl ?_
                refine WO_p (PS_move_ptr rfl) ?_
                refine WO_loadA _ Hvac.isAgg121 Hvac.sizeOf121 rfl (Hb.h (by repeat (first | assumption | exact Hb.newY _ _ | refine Hb.alloc ?_ | refine Hb.drew ?_ | refine Hb.ext (by assumption) ?_ | exact Hb.setSameL (by first | omega | (simp only [size_alloc, size_setB, size_drew]; omega)) | exact Hb.setSame (by assumption) | refine Hb.set (by first | omega | (simp only [size_alloc, size_setB, size_drew]; omega)) ?_ ))) (by first | omega | assumption | rfl | decide | exact Nat.le_refl _ | (simp only [size_ic, Value.cells]; omega) | (simp [encWs]; done) | (simp; omega) | simp | exact encYA_sz (by assumption) | exact encYT_sz (by assumption) | exact encYM_sz (by assumption)) (Xt.h (by first | assumption | exact Xt.whole rfl rfl | exact Xt.whole rfl (by assumption) | exact Xt.whole rfl (by simp only [size_ic, Value.cells]; omega) | exact ⟨rfl⟩)) ?_
                refine WO_call Hvac.call33 (by rfl) (Ret.mono (yEnter_spec _ (OmB.ext hO (by repeat (first | assumption | exact Ext.refl _ | refine Ext.alloc ?_ _ | refine Ext.drew ?_ | refine Ext.setB ?_ (by first | omega | (simp only [size_alloc, size_setB, size_drew]; omega)) _ | exact Ext.trans (by assumption) (by assumption) | refine Ext.trans ?_ (by assumption)))) Y C _ _ _ _ (N + 1) (YX.ext hX34 (by repeat (first | assumption | exact Ext.refl _ | refine Ext.alloc ?_ _ | refine Ext.drew ?_ | refine Ext.setB ?_ (by first | omega | (simp only [size_alloc, size_setB, size_drew]; omega)) _ | exact Ext.trans (by assumption) (by assumption) | refine Ext.trans ?_ (by assumption)))) hB3 (by omega) hYB (by rw [List.length_append, List.length_singleton]; omega) _ _ (FrR.ext hch34 (by repeat (first | assumption | exact Ext.refl _ | refine Ext.alloc ?_ _ | refine Ext.drew ?_ | refine Ext.setB ?_ (by first | omega | (simp only [size_alloc, size_setB, size_drew]; omega)) _ | exact Ext.trans (by assumption) (by assumption) | refine Ext.trans ?_ (by assumption)))) hchm rfl hcv34 hck34) ?_)
                rintro _ w35 ⟨rfl, hY35⟩
                refine WO_nil ?_
                first | refine bodyQ_ret0 Hvac.results124 ?_ | refine bodyQ_end0 Hvac.results124 ?_
                have e9 : yenterCall y rest f o = yenter (ycall1 y f) (rest ++ [ywait (ycallf f) tk (yarg f (tk - 4 + 2)) (yarg f (tk - 4 + 3))]) (ycallx y f o) := (by unfold yenterCall; rw [if_neg hq9, htn, hckn]); rw [e9]; exact ⟨rfl, YRet.pre (hK34.extR (by repeat (first | assumption | exact Ext.refl _ | refine Ext.alloc ?_ _ | refine Ext.drew ?_ | refine Ext.setB ?_ (by first | omega | (simp only [size_alloc, size_setB, size_drew]; omega)) _ | refine Ext.trans ?_ (by assumption)))) hY35⟩

end Go.Proofs.YgvacwGreat
