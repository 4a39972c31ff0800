import Derived.Test.YgvacwGreatHq
namespace Go.Proofs.YgvacwGreat
set_option linter.unusedSimpArgs false
set_option linter.unusedVariables false
def ycode (f : PF) : List Int := ycut f.mem (yarg f 1) (yarg f 2)
def ycrA (ks : List Int → List Int) (y : PSt) (f : PF) (o : Int) : List Int := if o = 245 then ycr2 ks f.self (yarg f 3) (ycode f) else ycr1 ks f.self (yacct y.now.accts f.self).nonce
def ycrk (o : Int) : Nat := if o = 245 then 6 else 5
def ycre1 (y : PSt) (f : PF) : PSt := ysAccts y (ysetNonce y.now.accts f.self ((yacct y.now.accts f.self).nonce + 1))
def ycre2 (ks : List Int → List Int) (y : PSt) (f : PF) (o : Int) : PSt := ysWarmA (ycre1 y f) (ywith y.now.warmA (ycrA ks y f o))
def ycref (f : PF) : PF := { f with gas := f.gas - ysent f.gas f.gas }
def ycrec (ks : List Int → List Int) (y : PSt) (f : PF) (o : Int) : PF := kPF (ycrk o) false (ysent f.gas f.gas) (yarg f 0) (ycode f) (ycrA ks y f o) f.self
def yenterCreate (ks : List Int → List Int) (y : PSt) (rest : List PF) (f : PF) (o : Int) : PSt × List PF :=
  if (6 ≤ rest.length ∨ (yacct y.now.accts f.self).bal < yarg f 0) ∨ 18446744073709551615 ≤ (yacct y.now.accts f.self).nonce then (y, rest ++ [yanswer f (ytakes o).toNat 0])
  else if ytaken (ycre2 ks y f o).now.accts (ycrA ks y f o) = true then (ycre2 ks y f o, rest ++ [yanswer (ycref f) (ytakes o).toNat 0])
  else yenter (ycre2 ks y f o) (rest ++ [ywait (ycref f) (ytakes o).toNat 0 0]) (ycrec ks y f o)
theorem ycr1_by {ks : List Int → List Int} (hK : KSum ks) (A : List Int) (n : Nat) : By (ycr1 ks A n) 20 := yhaddr_by hK _
theorem ycr2_by {ks : List Int → List Int} (hK : KSum ks) (A : List Int) (n : Nat) (I : List Int) : By (ycr2 ks A n I) 20 := yhaddr_by hK _
theorem ycrA_by {ks : List Int → List Int} (hK : KSum ks) (y : PSt) (f : PF) (o : Int) : By (ycrA ks y f o) 20 := by unfold ycrA; split; exact ycr2_by hK _ _ _; exact ycr1_by hK _ _
theorem kYF_g {k : Nat} {st : Bool} {g v cd : SV} {A B : List Int} (s : SV) : (encYF (kYF k st g v cd A B)).toArray.setIfInBounds (0 + 4) (.slice s.1 s.2.1 s.2.2) = (encYF (kYF k st s v cd A B)).toArray := encYF_4 _ s
theorem YB.setNonce {y : PSt} (h : YB y) (A : List Int) (n : Nat) : YB (ysAccts y (ysetNonce y.now.accts A n)) := by
  intro B
  show sz (yacct (ysetNonce y.now.accts A n) B).bal ≤ 32
  rw [yacct_setNonce]
  split
  · exact h A
  · exact h B
theorem NN.b104 [Om] {w : World} {s : SV} {n b : Nat} {r : Array Value} {o : Obj} (h : NN w s n) (hb : Hb w b (.cells r 104 (0, 0))) : NN (setB w b o) s n := h.kt (KT.setB hb (by decide))
theorem ycut_len2 (L : List Int) (o n : Nat) : (ycut L o n).length = n := by unfold ycut; simp

set_option maxRecDepth 10000 in
set_option maxHeartbeats 4000000 in
theorem yEnterCreate_spec [Om] (w : World) (hO : OmB w) (Y : Nat → Prop) (C : Nat) (x : YSt) (y : PSt) (xs : List YFr) (rest : List PF) (f : PF) (N : Nat) (hX : YX Y w C x y xs (rest ++ [f])) (hB : PSB N y) (hN : N ≤ 99999800) (hYB : YB y) (hP : PFB f) (hPr : ∀ g ∈ rest, PFB g ∧ sz g.gas ≤ 30) (hgf : sz f.gas ≤ 30) (hrl : rest.length ≤ 800) (F : Nat) (hFp : x.frames.1 = some ⟨F, 0, none⟩) (ks : List Int → List Int) (hK : KSum ks) (o : Int) (ho : o = 240 ∨ o = 245) (hst : (ytakes o).toNat ≤ f.stack.length) (hin : yarg f 2 ≤ 1000000) : Ret Hvac.prog 123 #[.pointer (some ⟨C, 0, none⟩), .pointer (some ⟨F, rest.length * 60, none⟩), .int .u8 o] w fun u w' => u = .tuple #[] ∧ YRet Y w w' C (yenterCreate ks y rest f o).1 (yenterCreate ks y rest f o).2 := by
  have hO0 := hO
  have hSb := hX.ss.blk
  have hSS := hX.ss
  have hSo := hX.ss.om
  have hSl := hSb.lt
  obtain ⟨r, xf, hxf, hFM, hMW, hYF, hlf⟩ := hX.top hFp
  have hFR := hFM.rel
  have hFC := hFM.fc
  have hFb := hFM.blk
  have hFo := hFM.om
  have hFl := hFb.lt
  have hFsz := hFC.size
  have hFS := hFM.s0
  have hk12 := hFC.self
  rw [hFR.self] at hk12
  have hsbl := hFR.sb.1
  have hzs := encYS_size x
  have hfcap := hX.frs.cap
  have ho8 : 0 ≤ o ∧ o ≤ 255 := by omega
  have htk2 : 3 ≤ ytakes o ∧ ytakes o ≤ 4 := by rcases ho with rfl | rfl <;> decide
  obtain ⟨tk, htkk⟩ : ∃ tk : Nat, ytakes o = (tk : Int) := ⟨(ytakes o).toNat, by omega⟩
  have htn : (ytakes o).toNat = tk := by omega
  rw [htkk] at htk2
  rw [htn] at hst
  have hsz0 := fr0_sz
  have hAl := (ycrA_by hK y f o).1
  have hrep : (List.replicate 20 (0 : Int)).length = 20 := List.length_replicate
  have hA1 := (ycr1_by hK f.self (yacct y.now.accts f.self).nonce).1
  have hA2 := (ycr2_by hK f.self (yarg f 3) (ycode f)).1
  have hcdl : (ycode f).length = yarg f 2 := ycut_len2 _ _ _
  have hbz10 : sz (yacct y.now.accts f.self).bal ≤ 40 := Nat.le_trans (hYB f.self) (by omega)
  have hs90 := sz_yarg hP 0
  have hs91 := sz_yarg hP 1
  have hs92 := sz_yarg hP 2
  have hs93 := sz_yarg hP 3
  have hk4 := hFC.gas
  have hzg := hP.gas
  have hk9 : Ce (encYS x).toArray (0 + 9) (.slice x.frames.1 (rest.length + 1) x.frames.2.2) := ⟨by have h9 : (encYS x).toArray[0 + 9]? = some (.slice x.frames.1 x.frames.2.1 x.frames.2.2) := rfl; rw [h9, hlf]⟩
  refine Ret_of_W Hvac.func123 rfl rfl ?_
  refine W_seq ?_
  refine W_region rfl ?_
  refine WO_p (PS_move_int rfl) ?_
  refine WO_call Hvac.call111 (by rfl) (Ret.mono (arity_spec _ _ ho8) ?_)
  rintro _ w111_0 ⟨hE111_0, rfl⟩
  have hz111_0 := hE111_0.1
  try simp only [size_alloc, size_setB, size_drew] at hz111_0
  refine WO_p (PS_move_tuple rfl) ?_
  refine WO_p (PS_extract_int rfl rfl) ?_
  refine WO_p (PS_extract_int rfl rfl) ?_
  refine WO_p (PS_extract_bool rfl rfl) ?_
  refine WO_p (PS_assign_int rfl) ?_
  refine WO_p (PS_assign_int rfl) ?_
  refine WO_p (PS_assign_bool rfl) ?_
  refine WO_nil ?_
  refine thn_normal ?_
  refine W_seq ?_
  rw [htkk]
  refine W_region rfl ?_
  refine WO_p (PS_move_ptr rfl) ?_
  refine WO_call Hvac.call47 (by rfl) (Ret.mono (yArg_spec _ (OmB.ext hO (by repeat (first | assumption | exact Ext.refl _ | refine Ext.alloc ?_ _ | refine Ext.drew ?_ | refine Ext.setB ?_ (by first | omega | (simp only [size_alloc, size_setB, size_drew]; omega)) _ | exact Ext.trans (by assumption) (by assumption) | refine Ext.trans ?_ (by assumption)))) _ _ _ _ (by first | assumption | exact FrS.ext (by assumption) (by repeat (first | assumption | exact Ext.refl _ | refine Ext.alloc ?_ _ | refine Ext.drew ?_ | refine Ext.setB ?_ (by first | omega | (simp only [size_alloc, size_setB, size_drew]; omega)) _ | exact Ext.trans (by assumption) (by assumption) | refine Ext.trans ?_ (by assumption)))) hP _ (by decide)) ?_)
  rintro _ w47_2 ⟨hE47_2, s9, rfl, hN9, hs9⟩
  have hz47_2 := hE47_2.1
  try simp only [size_alloc, size_setB, size_drew] at hz47_2
  refine WO_p (PS_assign_slice rfl) ?_
  refine WO_nil ?_
  refine thn_normal ?_
  refine W_seqJ (fun ρ w' => ∃ (b10 : Nat) (x10 : YAc), Fr [(0, .pointer (some ⟨C, 0, none⟩)), (1, .pointer (some ⟨F, rest.length * 60, none⟩)), (2, .int .u8 o), (6, .int .i64 (tk : Int)), (9, .slice s9.1 s9.2.1 s9.2.2), (10, .pointer (some ⟨b10, 0, none⟩))] ρ ∧ Ext w w' ∧ w.heap.size ≤ b10 ∧ Hb w' b10 (.cells (encYA x10).toArray 104 (0, 0)) ∧ NN w' s9 (yarg f 0) ∧ x10.addr = f.self ∧ NN w' x10.nonce (yacct y.now.accts f.self).nonce ∧ NN w' x10.bal (yacct y.now.accts f.self).bal ∧ sz (yacct y.now.accts f.self).nonce ≤ 40) ?_ ?_
  · skip
    refine W_drawF [false, false, false, false, false, false, false, false, true, false] [8] [0, 1, 2, 3, 4, 5, 6, 7, 9] hmix (by kernel_rfl) rfl rfl rfl ?_
    refine F_q (i := 0) rfl (by kernel_rfl) ?_
    refine WH_p (PS_move_ptr rfl) rfl ?_
    refine WH_nil ?_
    refine F_q (i := 1) rfl (by kernel_rfl) ?_
    refine WH_p (PS_nilCheck rfl) rfl ?_
    refine WH_nil ?_
    refine F_q (i := 2) rfl (by kernel_rfl) ?_
    refine WH_p (PS_fieldAddr 0 Hvac.runUnderlying99 rfl Hvac.sizeOf95 rfl rfl) rfl ?_
    refine WH_nil ?_
    refine F_q (i := 3) rfl (by kernel_rfl) ?_
    refine WH_p (PS_move_ptr rfl) rfl ?_
    refine WH_nil ?_
    refine F_q (i := 4) rfl (by kernel_rfl) ?_
    refine WH_p (PS_nilCheck rfl) rfl ?_
    refine WH_nil ?_
    refine F_q (i := 5) rfl (by kernel_rfl) ?_
    refine WH_p (PS_fieldAddr 12 Hvac.runUnderlying121 rfl Hvac.sizeOf25 rfl rfl) rfl ?_
    refine WH_nil ?_
    refine F_q (i := 6) rfl (by kernel_rfl) ?_
    refine WH_loadA _ Hvac.isAgg25 Hvac.sizeOf25 rfl (Hb.h (by repeat (first | assumption | exact Hb.newY _ _ | refine Hb.alloc ?_ | refine Hb.drew ?_ | refine Hb.ext (by assumption) ?_ | exact Hb.setSameL (by first | omega | (simp only [size_alloc, size_setB, size_drew]; omega)) | exact Hb.setSame (by assumption) | refine Hb.set (by first | omega | (simp only [size_alloc, size_setB, size_drew]; omega)) ?_ ))) (by first | omega | assumption | rfl | decide | exact Nat.le_refl _ | (simp only [size_ic, Value.cells]; omega) | (simp [encWs]; done) | (simp; omega) | simp | exact encYA_sz (by assumption) | exact encYT_sz (by assumption) | exact encYM_sz (by assumption)) (Xt.h (by first | assumption | exact Xt.whole rfl rfl | exact Xt.whole rfl (by assumption) | exact Xt.whole rfl (by simp only [size_ic, Value.cells]; omega) | exact ⟨rfl⟩)) ?_
    refine WH_nil ?_
    refine F_fork1 (i := 7) rfl rfl ?_ ?_
    · refine WH_call Hvac.call17 (by rfl) (Ret.mono (acctS (OmB.ext hO (by repeat (first | assumption | exact Ext.refl _ | refine Ext.alloc ?_ _ | refine Ext.drew ?_ | refine Ext.setB ?_ (by first | omega | (simp only [size_alloc, size_setB, size_drew]; omega)) _ | exact Ext.trans (by assumption) (by assumption) | refine Ext.trans ?_ (by assumption)))) (by first | assumption | exact YSS.ext (by assumption) (by repeat (first | assumption | exact Ext.refl _ | refine Ext.alloc ?_ _ | refine Ext.drew ?_ | refine Ext.setB ?_ (by first | omega | (simp only [size_alloc, size_setB, size_drew]; omega)) _ | exact Ext.trans (by assumption) (by assumption) | refine Ext.trans ?_ (by assumption)))) hB (by omega) hFR.sb) ?_)
      rintro _ w17_3 ⟨hE17_3, x10, rfl, hxa10, hxr10⟩
      refine ⟨(fun h => by cases h), ?_⟩
      have hz17_3 := hE17_3.1
      try simp only [size_alloc, size_setB, size_drew] at hz17_3
      have hxl10 : x10.addr.length = 20 := by rw [hxa10]; exact hsbl
      have hsz10 : (encYA x10).toArray.size = 24 := by simpa using encYA_len hxl10
      have hone10 := one_YA2 x10
      have hc1_10 := encYA_1 hxl10
      have hc2_10 := encYA_2 hxl10
      have hnc10 := hxr10.nonce
      have hbl10 := hxr10.bal
      have hnz10 := hxr10.nz
      have hbz10 := hxr10.bz
      refine WH_nil ?_
      refine F_fork1B (i := 9) (by kernel_rfl) rfl ?_
      · refine WH_allocG Hvac.zeroValue104 ?_
        intro b10 v10 hg10 hE10 hH10 hl10
        try simp only [size_alloc, size_setB, size_drew] at hg10
        have hzz10 := hE10.1
        try simp only [size_alloc, size_setB, size_drew] at hzz10
        replace hH10 : Hb v10 b10 (.cells ((encYA (ac0 (List.replicate 20 0))).toArray) 104 (0, 0)) := hH10
        refine ⟨fun _ => (by repeat (first | assumption | exact Ext.refl _ | refine Ext.alloc ?_ _ | refine Ext.drew ?_ | refine Ext.setB ?_ (by first | omega | (simp only [size_alloc, size_setB, size_drew]; omega)) _ | exact Ext.trans (by assumption) (by assumption) | refine Ext.trans ?_ (by assumption))), ?_⟩
        refine WH_nil ?_
        refine F_q (i := 9) rfl (by kernel_rfl) ?_
        first | refine WH_storeW Hvac.sizeOf104 rfl (v := .agg _) rfl (Hb.h (by repeat (first | assumption | exact Hb.newY _ _ | refine Hb.alloc ?_ | refine Hb.drew ?_ | refine Hb.ext (by assumption) ?_ | exact Hb.setSameL (by first | omega | (simp only [size_alloc, size_setB, size_drew]; omega)) | exact Hb.setSame (by assumption) | refine Hb.set (by first | omega | (simp only [size_alloc, size_setB, size_drew]; omega)) ?_ ))) rfl (by first | omega | assumption | rfl | decide | exact Nat.le_refl _ | (simp only [size_ic, Value.cells]; omega) | (simp [encWs]; done) | (simp; omega) | simp | exact encYA_sz (by assumption) | exact encYT_sz (by assumption) | exact encYM_sz (by assumption)) (by first | omega | assumption | rfl | decide | exact Nat.le_refl _ | (simp only [size_ic, Value.cells]; omega) | (simp [encWs]; done) | (simp; omega) | simp | exact encYA_sz (by assumption) | exact encYT_sz (by assumption) | exact encYM_sz (by assumption)) (by first | exact oneCell_ic | assumption | exact one_Ws2 _ | exact one_YA2 _ | exact one_YSl2 _ | exact one_YM2 _ | exact one_YT2 _ | exact one_L2 _) (fun h => by cases h) ?_ | refine WH_store Hvac.sizeOf104 rfl (v := .agg _) rfl (Hb.h (by repeat (first | assumption | exact Hb.newY _ _ | refine Hb.alloc ?_ | refine Hb.drew ?_ | refine Hb.ext (by assumption) ?_ | exact Hb.setSameL (by first | omega | (simp only [size_alloc, size_setB, size_drew]; omega)) | exact Hb.setSame (by assumption) | refine Hb.set (by first | omega | (simp only [size_alloc, size_setB, size_drew]; omega)) ?_ ))) (by first | omega | assumption | rfl | decide | exact Nat.le_refl _ | (simp only [size_ic, Value.cells]; omega) | (simp [encWs]; done) | (simp; omega) | simp | exact encYA_sz (by assumption) | exact encYT_sz (by assumption) | exact encYM_sz (by assumption)) (by first | omega | assumption | rfl | decide | exact Nat.le_refl _ | (simp only [size_ic, Value.cells]; omega) | (simp [encWs]; done) | (simp; omega) | simp | exact encYA_sz (by assumption) | exact encYT_sz (by assumption) | exact encYM_sz (by assumption)) (by first | exact oneCell_ic | assumption | exact one_Ws2 _ | exact one_YA2 _ | exact one_YSl2 _ | exact one_YM2 _ | exact one_YT2 _ | exact one_L2 _) (fun h => by cases h) ?_
        refine WH_nil ?_
        refine F_end ?_
        refine thn_normal ?_
        exact ⟨b10, x10, ⟨rfl, rfl, rfl, rfl, rfl, rfl, trivial⟩, (by repeat (first | assumption | exact Ext.refl _ | refine Ext.alloc ?_ _ | refine Ext.drew ?_ | refine Ext.setB ?_ (by first | omega | (simp only [size_alloc, size_setB, size_drew]; omega)) _ | refine Ext.trans ?_ (by assumption))), by omega, Hb.mk (Hb.h (by repeat (first | assumption | exact Hb.newY _ _ | refine Hb.alloc ?_ | refine Hb.drew ?_ | refine Hb.ext (by assumption) ?_ | exact Hb.setSameL (by first | omega | (simp only [size_alloc, size_setB, size_drew]; omega)) | exact Hb.setSame (by assumption) | refine Hb.set (by first | omega | (simp only [size_alloc, size_setB, size_drew]; omega)) ?_ ))), (by first | exact NN.nil _ | assumption | exact NN.ext (by assumption) (by repeat (first | assumption | exact Ext.refl _ | refine Ext.alloc ?_ _ | refine Ext.drew ?_ | refine Ext.setB ?_ (by first | omega | (simp only [size_alloc, size_setB, size_drew]; omega)) _ | refine Ext.trans ?_ (by assumption)))), hxa10, NN.b104 (NN.ext hnc10 (by repeat (first | assumption | exact Ext.refl _ | refine Ext.alloc ?_ _ | refine Ext.drew ?_ | refine Ext.setB ?_ (by first | omega | (simp only [size_alloc, size_setB, size_drew]; omega)) _ | refine Ext.trans ?_ (by assumption)))) (Hb.mk (Hb.h (by repeat (first | assumption | exact Hb.newY _ _ | refine Hb.alloc ?_ | refine Hb.drew ?_ | refine Hb.ext (by assumption) ?_ | exact Hb.setSameL (by first | omega | (simp only [size_alloc, size_setB, size_drew]; omega)) | exact Hb.setSame (by assumption) | refine Hb.set (by first | omega | (simp only [size_alloc, size_setB, size_drew]; omega)) ?_ )))), NN.b104 (NN.ext hbl10 (by repeat (first | assumption | exact Ext.refl _ | refine Ext.alloc ?_ _ | refine Ext.drew ?_ | refine Ext.setB ?_ (by first | omega | (simp only [size_alloc, size_setB, size_drew]; omega)) _ | refine Ext.trans ?_ (by assumption)))) (Hb.mk (Hb.h (by repeat (first | assumption | exact Hb.newY _ _ | refine Hb.alloc ?_ | refine Hb.drew ?_ | refine Hb.ext (by assumption) ?_ | exact Hb.setSameL (by first | omega | (simp only [size_alloc, size_setB, size_drew]; omega)) | exact Hb.setSame (by assumption) | refine Hb.set (by first | omega | (simp only [size_alloc, size_setB, size_drew]; omega)) ?_ )))), hnz10⟩
    · refine WH_allocG Hvac.zeroValue104 ?_
      intro b10 v10 hg10 hE10 hH10 hl10
      try simp only [size_alloc, size_setB, size_drew] at hg10
      have hzz10 := hE10.1
      try simp only [size_alloc, size_setB, size_drew] at hzz10
      replace hH10 : Hb v10 b10 (.cells ((encYA (ac0 (List.replicate 20 0))).toArray) 104 (0, 0)) := hH10
      refine ⟨fun _ => (by repeat (first | assumption | exact Ext.refl _ | refine Ext.alloc ?_ _ | refine Ext.drew ?_ | refine Ext.setB ?_ (by first | omega | (simp only [size_alloc, size_setB, size_drew]; omega)) _ | exact Ext.trans (by assumption) (by assumption) | refine Ext.trans ?_ (by assumption))), ?_⟩
      refine WH_nil ?_
      refine F_q (i := 7) rfl (by kernel_rfl) ?_
      refine WH_call Hvac.call17 (by rfl) (Ret.mono (acctS (OmB.ext hO (by repeat (first | assumption | exact Ext.refl _ | refine Ext.alloc ?_ _ | refine Ext.drew ?_ | refine Ext.setB ?_ (by first | omega | (simp only [size_alloc, size_setB, size_drew]; omega)) _ | exact Ext.trans (by assumption) (by assumption) | refine Ext.trans ?_ (by assumption)))) (by first | assumption | exact YSS.ext (by assumption) (by repeat (first | assumption | exact Ext.refl _ | refine Ext.alloc ?_ _ | refine Ext.drew ?_ | refine Ext.setB ?_ (by first | omega | (simp only [size_alloc, size_setB, size_drew]; omega)) _ | exact Ext.trans (by assumption) (by assumption) | refine Ext.trans ?_ (by assumption)))) hB (by omega) hFR.sb) ?_)
      rintro _ w17_4 ⟨hE17_4, x10, rfl, hxa10, hxr10⟩
      refine ⟨(fun h => by cases h), ?_⟩
      have hz17_4 := hE17_4.1
      try simp only [size_alloc, size_setB, size_drew] at hz17_4
      have hxl10 : x10.addr.length = 20 := by rw [hxa10]; exact hsbl
      have hsz10 : (encYA x10).toArray.size = 24 := by simpa using encYA_len hxl10
      have hone10 := one_YA2 x10
      have hc1_10 := encYA_1 hxl10
      have hc2_10 := encYA_2 hxl10
      have hnc10 := hxr10.nonce
      have hbl10 := hxr10.bal
      have hnz10 := hxr10.nz
      have hbz10 := hxr10.bz
      refine WH_nil ?_
      refine F_q (i := 9) rfl (by kernel_rfl) ?_
      first | refine WH_storeW Hvac.sizeOf104 rfl (v := .agg _) rfl (Hb.h (by repeat (first | assumption | exact Hb.newY _ _ | refine Hb.alloc ?_ | refine Hb.drew ?_ | refine Hb.ext (by assumption) ?_ | exact Hb.setSameL (by first | omega | (simp only [size_alloc, size_setB, size_drew]; omega)) | exact Hb.setSame (by assumption) | refine Hb.set (by first | omega | (simp only [size_alloc, size_setB, size_drew]; omega)) ?_ ))) rfl (by first | omega | assumption | rfl | decide | exact Nat.le_refl _ | (simp only [size_ic, Value.cells]; omega) | (simp [encWs]; done) | (simp; omega) | simp | exact encYA_sz (by assumption) | exact encYT_sz (by assumption) | exact encYM_sz (by assumption)) (by first | omega | assumption | rfl | decide | exact Nat.le_refl _ | (simp only [size_ic, Value.cells]; omega) | (simp [encWs]; done) | (simp; omega) | simp | exact encYA_sz (by assumption) | exact encYT_sz (by assumption) | exact encYM_sz (by assumption)) (by first | exact oneCell_ic | assumption | exact one_Ws2 _ | exact one_YA2 _ | exact one_YSl2 _ | exact one_YM2 _ | exact one_YT2 _ | exact one_L2 _) (fun h => by cases h) ?_ | refine WH_store Hvac.sizeOf104 rfl (v := .agg _) rfl (Hb.h (by repeat (first | assumption | exact Hb.newY _ _ | refine Hb.alloc ?_ | refine Hb.drew ?_ | refine Hb.ext (by assumption) ?_ | exact Hb.setSameL (by first | omega | (simp only [size_alloc, size_setB, size_drew]; omega)) | exact Hb.setSame (by assumption) | refine Hb.set (by first | omega | (simp only [size_alloc, size_setB, size_drew]; omega)) ?_ ))) (by first | omega | assumption | rfl | decide | exact Nat.le_refl _ | (simp only [size_ic, Value.cells]; omega) | (simp [encWs]; done) | (simp; omega) | simp | exact encYA_sz (by assumption) | exact encYT_sz (by assumption) | exact encYM_sz (by assumption)) (by first | omega | assumption | rfl | decide | exact Nat.le_refl _ | (simp only [size_ic, Value.cells]; omega) | (simp [encWs]; done) | (simp; omega) | simp | exact encYA_sz (by assumption) | exact encYT_sz (by assumption) | exact encYM_sz (by assumption)) (by first | exact oneCell_ic | assumption | exact one_Ws2 _ | exact one_YA2 _ | exact one_YSl2 _ | exact one_YM2 _ | exact one_YT2 _ | exact one_L2 _) (fun h => by cases h) ?_
      refine WH_nil ?_
      refine F_end ?_
      refine thn_normal ?_
      exact ⟨b10, x10, ⟨rfl, rfl, rfl, rfl, rfl, rfl, trivial⟩, (by repeat (first | assumption | exact Ext.refl _ | refine Ext.alloc ?_ _ | refine Ext.drew ?_ | refine Ext.setB ?_ (by first | omega | (simp only [size_alloc, size_setB, size_drew]; omega)) _ | refine Ext.trans ?_ (by assumption))), by omega, Hb.mk (Hb.h (by repeat (first | assumption | exact Hb.newY _ _ | refine Hb.alloc ?_ | refine Hb.drew ?_ | refine Hb.ext (by assumption) ?_ | exact Hb.setSameL (by first | omega | (simp only [size_alloc, size_setB, size_drew]; omega)) | exact Hb.setSame (by assumption) | refine Hb.set (by first | omega | (simp only [size_alloc, size_setB, size_drew]; omega)) ?_ ))), (by first | exact NN.nil _ | assumption | exact NN.ext (by assumption) (by repeat (first | assumption | exact Ext.refl _ | refine Ext.alloc ?_ _ | refine Ext.drew ?_ | refine Ext.setB ?_ (by first | omega | (simp only [size_alloc, size_setB, size_drew]; omega)) _ | refine Ext.trans ?_ (by assumption)))), hxa10, NN.b104 (NN.ext hnc10 (by repeat (first | assumption | exact Ext.refl _ | refine Ext.alloc ?_ _ | refine Ext.drew ?_ | refine Ext.setB ?_ (by first | omega | (simp only [size_alloc, size_setB, size_drew]; omega)) _ | refine Ext.trans ?_ (by assumption)))) (Hb.mk (Hb.h (by repeat (first | assumption | exact Hb.newY _ _ | refine Hb.alloc ?_ | refine Hb.drew ?_ | refine Hb.ext (by assumption) ?_ | exact Hb.setSameL (by first | omega | (simp only [size_alloc, size_setB, size_drew]; omega)) | exact Hb.setSame (by assumption) | refine Hb.set (by first | omega | (simp only [size_alloc, size_setB, size_drew]; omega)) ?_ )))), NN.b104 (NN.ext hbl10 (by repeat (first | assumption | exact Ext.refl _ | refine Ext.alloc ?_ _ | refine Ext.drew ?_ | refine Ext.setB ?_ (by first | omega | (simp only [size_alloc, size_setB, size_drew]; omega)) _ | refine Ext.trans ?_ (by assumption)))) (Hb.mk (Hb.h (by repeat (first | assumption | exact Hb.newY _ _ | refine Hb.alloc ?_ | refine Hb.drew ?_ | refine Hb.ext (by assumption) ?_ | exact Hb.setSameL (by first | omega | (simp only [size_alloc, size_setB, size_drew]; omega)) | exact Hb.setSame (by assumption) | refine Hb.set (by first | omega | (simp only [size_alloc, size_setB, size_drew]; omega)) ?_ )))), hnz10⟩
  · rintro ρ3 w3 ⟨b10, x10, hFr3, hE3, hg10, hb103, hN93, hxa10, hnc10, hbl10, hnz10⟩
    refine W_env _ hFr3 ?_
    have hz3 := hE3.1
    have hb10l3 := hb103.lt
    have hxl10 : x10.addr.length = 20 := by rw [hxa10]; exact hsbl
    have hsz10 : (encYA x10).toArray.size = 24 := by simpa using encYA_len hxl10
    have hone10 := one_YA2 x10
    have hc1_10 := encYA_1 hxl10
    have hc2_10 := encYA_2 hxl10
    refine W_seq ?_
    refine W_seq ?_
    refine W_drawE [false, false, false, false, false, false, false, false, false, false, false, true, false, false, false, false, false, true, false, false, false] hmix (by kernel_rfl) rfl ?_
    refine WH_p (PS_move_ptr rfl) rfl ?_
    refine WH_p (PS_nilCheck rfl) rfl ?_
    refine WH_p (PS_fieldAddr 9 Hvac.runUnderlying99 rfl Hvac.sizeOf97 rfl rfl) rfl ?_
    refine WH_load (.slice _ _ _) Hvac.isAgg97 rfl (Hb.h (by repeat (first | assumption | exact Hb.newY _ _ | refine Hb.alloc ?_ | refine Hb.drew ?_ | refine Hb.ext (by assumption) ?_ | exact Hb.setSameL (by first | omega | (simp only [size_alloc, size_setB, size_drew]; omega)) | exact Hb.setSame (by assumption) | refine Hb.set (by first | omega | (simp only [size_alloc, size_setB, size_drew]; omega)) ?_ ))) (Ce.h (by first | assumption | exact ⟨rfl⟩)) ?_
    refine WH_p (PS_lenS Hvac.runUnderlying97 rfl) rfl ?_
    refine WH_p (PS_sub_i64n rfl rfl (by omega) (by omega)) rfl ?_
    refine WH_p (PS_geq rfl rfl) rfl ?_
    refine WH_p (PS_move_bool rfl) rfl ?_
    refine WH_if (t := 35) rfl (fun hb7 => ?_) (fun hb7 => ?_)
    · have hb7p := hb7.h; try simp only [al_ete, al_dfn, Bool.not_eq_true', Bool.not_eq_false', al_ne, Bool.not_not, al_nn] at hb7p
      have hq9 : (6 ≤ rest.length ∨ (yacct y.now.accts f.self).bal < yarg f 0) ∨ 18446744073709551615 ≤ (yacct y.now.accts f.self).nonce := Or.inl (Or.inl (by omega))
      refine WH_guardF rfl rfl hb7.h ?_
      refine WH_guardF rfl rfl hb7.h ?_
      refine WH_guardF rfl rfl hb7.h ?_
      refine WH_guardF rfl rfl hb7.h ?_
      refine WH_guardF rfl rfl hb7.h ?_
      refine WH_p (PS_pickT rfl hb7.h rfl) rfl ?_
      refine WH_p (PS_move_bool rfl) rfl ?_
      refine WH_guardF rfl rfl rfl ?_
      refine WH_guardF rfl rfl rfl ?_
      refine WH_guardF rfl rfl rfl ?_
      refine WH_guardF rfl rfl rfl ?_
      refine WH_guardF rfl rfl rfl ?_
      refine WH_p (PS_pickT rfl rfl rfl) rfl ?_
      refine WH_nil ?_
      refine thn_normal ?_
      refine W_condT rfl rfl ?_
      refine W_seq ?_
      refine W_region rfl ?_
      refine WO_p (PS_move_ptr rfl) ?_
      refine WO_p (PS_move_int rfl) ?_
      refine WO_call Hvac.call117 (by rfl) (Ret.mono (yAnswer_spec _ (OmB.ext hO (by repeat (first | assumption | exact Ext.refl _ | refine Ext.alloc ?_ _ | refine Ext.drew ?_ | refine Ext.setB ?_ (by first | omega | (simp only [size_alloc, size_setB, size_drew]; omega)) _ | exact Ext.trans (by assumption) (by assumption) | refine Ext.trans ?_ (by assumption)))) _ _ _ _ _ (FrM.ext hFM (by repeat (first | assumption | exact Ext.refl _ | refine Ext.alloc ?_ _ | refine Ext.drew ?_ | refine Ext.setB ?_ (by first | omega | (simp only [size_alloc, size_setB, size_drew]; omega)) _ | exact Ext.trans (by assumption) (by assumption) | refine Ext.trans ?_ (by assumption)))) hP tk hst _ _ _ _ (NN.nil _) (by first | assumption | omega | (rw [sz_zero]; omega))) ?_)
      rintro _ w4 ⟨rfl, r4, x4, hS4, hm4⟩
      refine WO_nil ?_
      refine thn_normal ?_
      refine W_ret ?_
      refine thn_ret ?_
      first | refine bodyQ_ret0 Hvac.results123 ?_ | refine bodyQ_end0 Hvac.results123 ?_
      have hX4 := (hX.ext (by repeat (first | assumption | exact Ext.refl _ | refine Ext.alloc ?_ _ | refine Ext.drew ?_ | refine Ext.setB ?_ (by first | omega | (simp only [size_alloc, size_setB, size_drew]; omega)) _ | refine Ext.trans ?_ (by assumption)))).ftop (o := 0) hFp hxf (FrM.ext hFM (by repeat (first | assumption | exact Ext.refl _ | refine Ext.alloc ?_ _ | refine Ext.drew ?_ | refine Ext.setB ?_ (by first | omega | (simp only [size_alloc, size_setB, size_drew]; omega)) _ | refine Ext.trans ?_ (by assumption)))) hS4 hm4 rfl; have e9 : yenterCreate ks y rest f o = (y, rest ++ [yanswer f tk 0]) := (by unfold yenterCreate; rw [if_pos hq9, htn]); rw [e9]; exact ⟨rfl, hX4.ret ((Ext.keepO (by repeat (first | assumption | exact Ext.refl _ | refine Ext.alloc ?_ _ | refine Ext.drew ?_ | refine Ext.setB ?_ (by first | omega | (simp only [size_alloc, size_setB, size_drew]; omega)) _ | refine Ext.trans ?_ (by assumption))) _).trans (KeepO.mono hS4.keep (fun b e => e ▸ hYF)) (fun _ _ e => e))⟩
    · have hb7p := hb7.h; try simp only [al_ete, al_dfn, Bool.not_eq_true', Bool.not_eq_false', al_ne, Bool.not_not, al_nn] at hb7p
      have hq0 : ¬ 6 ≤ rest.length := by omega
      refine WH_guardT rfl rfl hb7.h ?_
      refine WH_p (PS_fieldAddr 21 Hvac.runUnderlying104 rfl Hvac.sizeOf92 rfl rfl) rfl ?_
      refine WH_guardT rfl rfl hb7.h ?_
      refine WH_load (.slice _ _ _) Hvac.isAgg92 rfl (Hb.h (by repeat (first | assumption | exact Hb.newY _ _ | refine Hb.alloc ?_ | refine Hb.drew ?_ | refine Hb.ext (by assumption) ?_ | exact Hb.setSameL (by first | omega | (simp only [size_alloc, size_setB, size_drew]; omega)) | exact Hb.setSame (by assumption) | refine Hb.set (by first | omega | (simp only [size_alloc, size_setB, size_drew]; omega)) ?_ ))) (Ce.h (by first | assumption | exact ⟨rfl⟩)) ?_
      refine WH_guardT rfl rfl hb7.h ?_
      refine WH_p (PS_move_slice rfl) rfl ?_
      refine WH_guardT rfl rfl hb7.h ?_
      refine WH_call Hvac.call76 (by rfl) (Ret.mono (nCmp_spec (by first | exact NN.nil _ | assumption | exact NN.ext (by assumption) (by repeat (first | assumption | exact Ext.refl _ | refine Ext.alloc ?_ _ | refine Ext.drew ?_ | refine Ext.setB ?_ (by first | omega | (simp only [size_alloc, size_setB, size_drew]; omega)) _ | exact Ext.trans (by assumption) (by assumption) | refine Ext.trans ?_ (by assumption)))) (by first | exact NN.nil _ | assumption | exact NN.ext (by assumption) (by repeat (first | assumption | exact Ext.refl _ | refine Ext.alloc ?_ _ | refine Ext.drew ?_ | refine Ext.setB ?_ (by first | omega | (simp only [size_alloc, size_setB, size_drew]; omega)) _ | exact Ext.trans (by assumption) (by assumption) | refine Ext.trans ?_ (by assumption)))) (by first | assumption | omega | (rw [sz_zero]; omega)) (by first | assumption | omega | (rw [sz_zero]; omega))) ?_)
      rintro _ w76_8 ⟨hE76_8, rfl⟩
      refine ⟨fun _ => (by repeat (first | assumption | exact Ext.refl _ | refine Ext.alloc ?_ _ | refine Ext.drew ?_ | refine Ext.setB ?_ (by first | omega | (simp only [size_alloc, size_setB, size_drew]; omega)) _ | exact Ext.trans (by assumption) (by assumption) | refine Ext.trans ?_ (by assumption))), ?_⟩
      have hz76_8 := hE76_8.1
      try simp only [size_alloc, size_setB, size_drew] at hz76_8
      refine WH_guardT rfl rfl hb7.h ?_
      refine WH_p (PS_lss rfl rfl) rfl ?_
      refine WH_p (PS_pickF rfl hb7.h rfl) rfl ?_
      refine WH_p (PS_move_bool rfl) rfl ?_
      refine WH_if (t := 42) rfl (fun hb11 => ?_) (fun hb11 => ?_)
      · have hb11p := hb11.h; try simp only [al_ete, al_dfn, Bool.not_eq_true', Bool.not_eq_false', al_ne, Bool.not_not, al_nn] at hb11p
        have hq9 : (6 ≤ rest.length ∨ (yacct y.now.accts f.self).bal < yarg f 0) ∨ 18446744073709551615 ≤ (yacct y.now.accts f.self).nonce := Or.inl (Or.inr (by rw [cmpI_lt2] at hb11p; exact hb11p))
        refine WH_guardF rfl rfl hb11.h ?_
        refine WH_guardF rfl rfl hb11.h ?_
        refine WH_guardF rfl rfl hb11.h ?_
        refine WH_guardF rfl rfl hb11.h ?_
        refine WH_guardF rfl rfl hb11.h ?_
        refine WH_p (PS_pickT rfl hb11.h rfl) rfl ?_
        refine WH_nil ?_
        refine thn_normal ?_
        refine W_condT rfl rfl ?_
        refine W_seq ?_
        refine W_region rfl ?_
        refine WO_p (PS_move_ptr rfl) ?_
        refine WO_p (PS_move_int rfl) ?_
        refine WO_call Hvac.call117 (by rfl) (Ret.mono (yAnswer_spec _ (OmB.ext hO (by repeat (first | assumption | exact Ext.refl _ | refine Ext.alloc ?_ _ | refine Ext.drew ?_ | refine Ext.setB ?_ (by first | omega | (simp only [size_alloc, size_setB, size_drew]; omega)) _ | exact Ext.trans (by assumption) (by assumption) | refine Ext.trans ?_ (by assumption)))) _ _ _ _ _ (FrM.ext hFM (by repeat (first | assumption | exact Ext.refl _ | refine Ext.alloc ?_ _ | refine Ext.drew ?_ | refine Ext.setB ?_ (by first | omega | (simp only [size_alloc, size_setB, size_drew]; omega)) _ | exact Ext.trans (by assumption) (by assumption) | refine Ext.trans ?_ (by assumption)))) hP tk hst _ _ _ _ (NN.nil _) (by first | assumption | omega | (rw [sz_zero]; omega))) ?_)
        rintro _ w4 ⟨rfl, r4, x4, hS4, hm4⟩
        refine WO_nil ?_
        refine thn_normal ?_
        refine W_ret ?_
        refine thn_ret ?_
        first | refine bodyQ_ret0 Hvac.results123 ?_ | refine bodyQ_end0 Hvac.results123 ?_
        have hX4 := (hX.ext (by repeat (first | assumption | exact Ext.refl _ | refine Ext.alloc ?_ _ | refine Ext.drew ?_ | refine Ext.setB ?_ (by first | omega | (simp only [size_alloc, size_setB, size_drew]; omega)) _ | refine Ext.trans ?_ (by assumption)))).ftop (o := 0) hFp hxf (FrM.ext hFM (by repeat (first | assumption | exact Ext.refl _ | refine Ext.alloc ?_ _ | refine Ext.drew ?_ | refine Ext.setB ?_ (by first | omega | (simp only [size_alloc, size_setB, size_drew]; omega)) _ | refine Ext.trans ?_ (by assumption)))) hS4 hm4 rfl; have e9 : yenterCreate ks y rest f o = (y, rest ++ [yanswer f tk 0]) := (by unfold yenterCreate; rw [if_pos hq9, htn]); rw [e9]; exact ⟨rfl, hX4.ret ((Ext.keepO (by repeat (first | assumption | exact Ext.refl _ | refine Ext.alloc ?_ _ | refine Ext.drew ?_ | refine Ext.setB ?_ (by first | omega | (simp only [size_alloc, size_setB, size_drew]; omega)) _ | refine Ext.trans ?_ (by assumption))) _).trans (KeepO.mono hS4.keep (fun b e => e ▸ hYF)) (fun _ _ e => e))⟩
      · have hb11p := hb11.h; try simp only [al_ete, al_dfn, Bool.not_eq_true', Bool.not_eq_false', al_ne, Bool.not_not, al_nn] at hb11p
        have hq2 : ¬ (6 ≤ rest.length ∨ (yacct y.now.accts f.self).bal < yarg f 0) := fun h9 => by rw [cmpI_lt2] at hb11p; rcases h9 with h9 | h9; exact hq0 h9; exact hb11p h9
        refine WH_guardT rfl rfl hb11.h ?_
        refine WH_p (PS_fieldAddr 20 Hvac.runUnderlying104 rfl Hvac.sizeOf92 rfl rfl) rfl ?_
        refine WH_guardT rfl rfl hb11.h ?_
        refine WH_load (.slice _ _ _) Hvac.isAgg92 rfl (Hb.h (by repeat (first | assumption | exact Hb.newY _ _ | refine Hb.alloc ?_ | refine Hb.drew ?_ | refine Hb.ext (by assumption) ?_ | exact Hb.setSameL (by first | omega | (simp only [size_alloc, size_setB, size_drew]; omega)) | exact Hb.setSame (by assumption) | refine Hb.set (by first | omega | (simp only [size_alloc, size_setB, size_drew]; omega)) ?_ ))) (Ce.h (by first | assumption | exact ⟨rfl⟩)) ?_
        refine WH_guardT rfl rfl hb11.h ?_
        refine WH_call Hvac.call19 (by rfl) (Ret.mono (nNum_spec (OmB.ext hO (by repeat (first | assumption | exact Ext.refl _ | refine Ext.alloc ?_ _ | refine Ext.drew ?_ | refine Ext.setB ?_ (by first | omega | (simp only [size_alloc, size_setB, size_drew]; omega)) _ | exact Ext.trans (by assumption) (by assumption) | refine Ext.trans ?_ (by assumption)))) ⟨by omega, by omega⟩) ?_)
        rintro _ w19_12 ⟨hE19_12, s19_12, rfl, hN19_12, hs19_12⟩
        refine ⟨fun _ => (by repeat (first | assumption | exact Ext.refl _ | refine Ext.alloc ?_ _ | refine Ext.drew ?_ | refine Ext.setB ?_ (by first | omega | (simp only [size_alloc, size_setB, size_drew]; omega)) _ | exact Ext.trans (by assumption) (by assumption) | refine Ext.trans ?_ (by assumption))), ?_⟩
        have hz19_12 := hE19_12.1
        try simp only [size_alloc, size_setB, size_drew] at hz19_12
        try simp only [Int.toNat_natCast, toNat_lit] at hN19_12 hs19_12
        try simp only [show Int.toNat 18446744073709551615 = 18446744073709551615 from rfl] at hN19_12 hs19_12
        refine WH_guardT rfl rfl hb11.h ?_
        refine WH_call Hvac.call76 (by rfl) (Ret.mono (nCmp_spec (by first | exact NN.nil _ | assumption | exact NN.ext (by assumption) (by repeat (first | assumption | exact Ext.refl _ | refine Ext.alloc ?_ _ | refine Ext.drew ?_ | refine Ext.setB ?_ (by first | omega | (simp only [size_alloc, size_setB, size_drew]; omega)) _ | exact Ext.trans (by assumption) (by assumption) | refine Ext.trans ?_ (by assumption)))) (by first | exact NN.nil _ | assumption | exact NN.ext (by assumption) (by repeat (first | assumption | exact Ext.refl _ | refine Ext.alloc ?_ _ | refine Ext.drew ?_ | refine Ext.setB ?_ (by first | omega | (simp only [size_alloc, size_setB, size_drew]; omega)) _ | exact Ext.trans (by assumption) (by assumption) | refine Ext.trans ?_ (by assumption)))) (by first | assumption | omega | (rw [sz_zero]; omega)) (by first | assumption | omega | (rw [sz_zero]; omega))) ?_)
        rintro _ w76_13 ⟨hE76_13, rfl⟩
        refine ⟨(fun h => by cases h), ?_⟩
        have hz76_13 := hE76_13.1
        try simp only [size_alloc, size_setB, size_drew] at hz76_13
        refine WH_guardT rfl rfl hb11.h ?_
        refine WH_p (PS_geq rfl rfl) rfl ?_
        refine WH_p (PS_pickF rfl hb11.h rfl) rfl ?_
        refine WH_nil ?_
        refine thn_normal ?_
        refine W_if rfl (fun hb16 => ?_) (fun hb16 => ?_)
        · have hb16p := hb16.h; try simp only [al_ete, al_dfn, Bool.not_eq_true', Bool.not_eq_false', al_ne, Bool.not_not, al_nn] at hb16p
          have hq9 : (6 ≤ rest.length ∨ (yacct y.now.accts f.self).bal < yarg f 0) ∨ 18446744073709551615 ≤ (yacct y.now.accts f.self).nonce := Or.inr (by rw [cmpI_ge2] at hb16p; exact hb16p)
          refine W_seq ?_
          refine W_region rfl ?_
          refine WO_p (PS_move_ptr rfl) ?_
          refine WO_p (PS_move_int rfl) ?_
          refine WO_call Hvac.call117 (by rfl) (Ret.mono (yAnswer_spec _ (OmB.ext hO (by repeat (first | assumption | exact Ext.refl _ | refine Ext.alloc ?_ _ | refine Ext.drew ?_ | refine Ext.setB ?_ (by first | omega | (simp only [size_alloc, size_setB, size_drew]; omega)) _ | exact Ext.trans (by assumption) (by assumption) | refine Ext.trans ?_ (by assumption)))) _ _ _ _ _ (FrM.ext hFM (by repeat (first | assumption | exact Ext.refl _ | refine Ext.alloc ?_ _ | refine Ext.drew ?_ | refine Ext.setB ?_ (by first | omega | (simp only [size_alloc, size_setB, size_drew]; omega)) _ | exact Ext.trans (by assumption) (by assumption) | refine Ext.trans ?_ (by assumption)))) hP tk hst _ _ _ _ (NN.nil _) (by first | assumption | omega | (rw [sz_zero]; omega))) ?_)
          rintro _ w4 ⟨rfl, r4, x4, hS4, hm4⟩
          refine WO_nil ?_
          refine thn_normal ?_
          refine W_ret ?_
          refine thn_ret ?_
          first | refine bodyQ_ret0 Hvac.results123 ?_ | refine bodyQ_end0 Hvac.results123 ?_
          have hX4 := (hX.ext (by repeat (first | assumption | exact Ext.refl _ | refine Ext.alloc ?_ _ | refine Ext.drew ?_ | refine Ext.setB ?_ (by first | omega | (simp only [size_alloc, size_setB, size_drew]; omega)) _ | refine Ext.trans ?_ (by assumption)))).ftop (o := 0) hFp hxf (FrM.ext hFM (by repeat (first | assumption | exact Ext.refl _ | refine Ext.alloc ?_ _ | refine Ext.drew ?_ | refine Ext.setB ?_ (by first | omega | (simp only [size_alloc, size_setB, size_drew]; omega)) _ | refine Ext.trans ?_ (by assumption)))) hS4 hm4 rfl; have e9 : yenterCreate ks y rest f o = (y, rest ++ [yanswer f tk 0]) := (by unfold yenterCreate; rw [if_pos hq9, htn]); rw [e9]; exact ⟨rfl, hX4.ret ((Ext.keepO (by repeat (first | assumption | exact Ext.refl _ | refine Ext.alloc ?_ _ | refine Ext.drew ?_ | refine Ext.setB ?_ (by first | omega | (simp only [size_alloc, size_setB, size_drew]; omega)) _ | refine Ext.trans ?_ (by assumption))) _).trans (KeepO.mono hS4.keep (fun b e => e ▸ hYF)) (fun _ _ e => e))⟩
        · have hb16p := hb16.h; try simp only [al_ete, al_dfn, Bool.not_eq_true', Bool.not_eq_false', al_ne, Bool.not_not, al_nn] at hb16p
          have hq3 : ¬ 18446744073709551615 ≤ (yacct y.now.accts f.self).nonce := by rw [cmpI_ge2] at hb16p; exact hb16p
          have hq9 : ¬ ((6 ≤ rest.length ∨ (yacct y.now.accts f.self).bal < yarg f 0) ∨ 18446744073709551615 ≤ (yacct y.now.accts f.self).nonce) := fun h9 => by rcases h9 with h9 | h9; exact hq2 h9; exact hq3 h9
          refine W_skip ?_
          refine thn_normal ?_
          refine W_seqJ (fun ρ w' => ∃ (b11 : Nat) (s53 s63 : SV), Fr [(0, .pointer (some ⟨C, 0, none⟩)), (1, .pointer (some ⟨F, rest.length * 60, none⟩)), (2, .int .u8 o), (6, .int .i64 (tk : Int)), (9, .slice s9.1 s9.2.1 s9.2.2), (10, .pointer (some ⟨b10, 0, none⟩)), (11, .pointer (some ⟨b11, 0, none⟩))] ρ ∧ Ext w w' ∧ w.heap.size ≤ b11 ∧ b11 ≠ b10 ∧ Hb w' b10 (.cells (encYA x10).toArray 104 (0, 0)) ∧ Hb w' b11 (.cells (encYF (kYF 5 false (none, 0, 0) s53 s63 (List.replicate 20 0) f.self)).toArray 121 (0, 0)) ∧ NN w' s53 (yarg f 0) ∧ PB w' s63 (ycode f) ∧ NN w' x10.nonce (yacct y.now.accts f.self).nonce) ?_ ?_
          · skip
            refine W_drawF [false, true, false, false, false, false, false, false, true, false, true, true, false, true, false] [13] [0, 1, 2, 3, 4, 5, 6, 7, 8, 9, 10, 11, 12, 14] hmix (by kernel_rfl) rfl rfl rfl ?_
            refine F_q (i := 0) rfl (by kernel_rfl) ?_
            refine WH_p (PS_move_slice rfl) rfl ?_
            refine WH_nil ?_
            refine F_fork1 (i := 1) rfl rfl ?_ ?_
            · refine WH_call Hvac.call79 (by rfl) (Ret.mono (nNorm_spec (OmB.ext hO (by repeat (first | assumption | exact Ext.refl _ | refine Ext.alloc ?_ _ | refine Ext.drew ?_ | refine Ext.setB ?_ (by first | omega | (simp only [size_alloc, size_setB, size_drew]; omega)) _ | exact Ext.trans (by assumption) (by assumption) | refine Ext.trans ?_ (by assumption)))) (by first | exact NN.nil _ | assumption | exact NN.ext (by assumption) (by repeat (first | assumption | exact Ext.refl _ | refine Ext.alloc ?_ _ | refine Ext.drew ?_ | refine Ext.setB ?_ (by first | omega | (simp only [size_alloc, size_setB, size_drew]; omega)) _ | exact Ext.trans (by assumption) (by assumption) | refine Ext.trans ?_ (by assumption)))) (by first | assumption | omega | (rw [sz_zero]; omega))) ?_)
              rintro _ w79_17 ⟨hE79_17, s53, rfl, hN53⟩
              refine ⟨fun _ => (by repeat (first | assumption | exact Ext.refl _ | refine Ext.alloc ?_ _ | refine Ext.drew ?_ | refine Ext.setB ?_ (by first | omega | (simp only [size_alloc, size_setB, size_drew]; omega)) _ | exact Ext.trans (by assumption) (by assumption) | refine Ext.trans ?_ (by assumption))), ?_⟩
              have hz79_17 := hE79_17.1
              try simp only [size_alloc, size_setB, size_drew] at hz79_17
              refine WH_nil ?_
              refine F_q (i := 2) rfl (by kernel_rfl) ?_
              refine WH_p (PS_move_ptr rfl) rfl ?_
              refine WH_nil ?_
              refine F_q (i := 3) rfl (by kernel_rfl) ?_
              refine WH_p (PS_nilCheck rfl) rfl ?_
              refine WH_nil ?_
              refine F_q (i := 4) rfl (by kernel_rfl) ?_
              refine WH_p (PS_fieldAddr 12 Hvac.runUnderlying121 rfl Hvac.sizeOf25 rfl rfl) rfl ?_
              refine WH_nil ?_
              refine F_q (i := 5) rfl (by kernel_rfl) ?_
              refine WH_loadA _ Hvac.isAgg25 Hvac.sizeOf25 rfl (Hb.h (by repeat (first | assumption | exact Hb.newY _ _ | refine Hb.alloc ?_ | refine Hb.drew ?_ | refine Hb.ext (by assumption) ?_ | exact Hb.setSameL (by first | omega | (simp only [size_alloc, size_setB, size_drew]; omega)) | exact Hb.setSame (by assumption) | refine Hb.set (by first | omega | (simp only [size_alloc, size_setB, size_drew]; omega)) ?_ ))) (by first | omega | assumption | rfl | decide | exact Nat.le_refl _ | (simp only [size_ic, Value.cells]; omega) | (simp [encWs]; done) | (simp; omega) | simp | exact encYA_sz (by assumption) | exact encYT_sz (by assumption) | exact encYM_sz (by assumption)) (Xt.h (by first | assumption | exact Xt.whole rfl rfl | exact Xt.whole rfl (by assumption) | exact Xt.whole rfl (by simp only [size_ic, Value.cells]; omega) | exact ⟨rfl⟩)) ?_
              refine WH_nil ?_
              refine F_q (i := 6) rfl (by kernel_rfl) ?_
              refine WH_p (PS_move_ptr rfl) rfl ?_
              refine WH_nil ?_
              refine F_q (i := 7) rfl (by kernel_rfl) ?_
              refine WH_p (PS_move_ptr rfl) rfl ?_
              refine WH_nil ?_
              refine F_fork1 (i := 8) rfl rfl ?_ ?_
              · refine WH_call Hvac.call47 (by rfl) (Ret.mono (yArg_spec _ (OmB.ext hO (by repeat (first | assumption | exact Ext.refl _ | refine Ext.alloc ?_ _ | refine Ext.drew ?_ | refine Ext.setB ?_ (by first | omega | (simp only [size_alloc, size_setB, size_drew]; omega)) _ | exact Ext.trans (by assumption) (by assumption) | refine Ext.trans ?_ (by assumption)))) _ _ _ _ (by first | assumption | exact FrS.ext (by assumption) (by repeat (first | assumption | exact Ext.refl _ | refine Ext.alloc ?_ _ | refine Ext.drew ?_ | refine Ext.setB ?_ (by first | omega | (simp only [size_alloc, size_setB, size_drew]; omega)) _ | exact Ext.trans (by assumption) (by assumption) | refine Ext.trans ?_ (by assumption)))) hP _ (by decide)) ?_)
                rintro _ w47_18 ⟨hE47_18, s47_18, rfl, hN47_18, hs47_18⟩
                refine ⟨fun _ => (by repeat (first | assumption | exact Ext.refl _ | refine Ext.alloc ?_ _ | refine Ext.drew ?_ | refine Ext.setB ?_ (by first | omega | (simp only [size_alloc, size_setB, size_drew]; omega)) _ | exact Ext.trans (by assumption) (by assumption) | refine Ext.trans ?_ (by assumption))), ?_⟩
                have hz47_18 := hE47_18.1
                try simp only [size_alloc, size_setB, size_drew] at hz47_18
                refine WH_nil ?_
                refine F_q (i := 9) rfl (by kernel_rfl) ?_
                refine WH_p (PS_move_ptr rfl) rfl ?_
                refine WH_nil ?_
                refine F_fork1 (i := 10) rfl rfl ?_ ?_
                · refine WH_call Hvac.call47 (by rfl) (Ret.mono (yArg_spec _ (OmB.ext hO (by repeat (first | assumption | exact Ext.refl _ | refine Ext.alloc ?_ _ | refine Ext.drew ?_ | refine Ext.setB ?_ (by first | omega | (simp only [size_alloc, size_setB, size_drew]; omega)) _ | exact Ext.trans (by assumption) (by assumption) | refine Ext.trans ?_ (by assumption)))) _ _ _ _ (by first | assumption | exact FrS.ext (by assumption) (by repeat (first | assumption | exact Ext.refl _ | refine Ext.alloc ?_ _ | refine Ext.drew ?_ | refine Ext.setB ?_ (by first | omega | (simp only [size_alloc, size_setB, size_drew]; omega)) _ | exact Ext.trans (by assumption) (by assumption) | refine Ext.trans ?_ (by assumption)))) hP _ (by decide)) ?_)
                  rintro _ w47_19 ⟨hE47_19, s47_19, rfl, hN47_19, hs47_19⟩
                  refine ⟨fun _ => (by repeat (first | assumption | exact Ext.refl _ | refine Ext.alloc ?_ _ | refine Ext.drew ?_ | refine Ext.setB ?_ (by first | omega | (simp only [size_alloc, size_setB, size_drew]; omega)) _ | exact Ext.trans (by assumption) (by assumption) | refine Ext.trans ?_ (by assumption))), ?_⟩
                  have hz47_19 := hE47_19.1
                  try simp only [size_alloc, size_setB, size_drew] at hz47_19
                  refine WH_nil ?_
                  refine F_fork1 (i := 11) rfl rfl ?_ ?_
                  · refine WH_call Hvac.call46 (by rfl) (Ret.mono (yRead_spec _ (OmB.ext hO (by repeat (first | assumption | exact Ext.refl _ | refine Ext.alloc ?_ _ | refine Ext.drew ?_ | refine Ext.setB ?_ (by first | omega | (simp only [size_alloc, size_setB, size_drew]; omega)) _ | exact Ext.trans (by assumption) (by assumption) | refine Ext.trans ?_ (by assumption)))) _ _ _ _ (by first | assumption | exact FrS.ext (by assumption) (by repeat (first | assumption | exact Ext.refl _ | refine Ext.alloc ?_ _ | refine Ext.drew ?_ | refine Ext.setB ?_ (by first | omega | (simp only [size_alloc, size_setB, size_drew]; omega)) _ | exact Ext.trans (by assumption) (by assumption) | refine Ext.trans ?_ (by assumption)))) hP _ _ _ _ (by first | exact NN.nil _ | assumption | exact NN.ext (by assumption) (by repeat (first | assumption | exact Ext.refl _ | refine Ext.alloc ?_ _ | refine Ext.drew ?_ | refine Ext.setB ?_ (by first | omega | (simp only [size_alloc, size_setB, size_drew]; omega)) _ | exact Ext.trans (by assumption) (by assumption) | refine Ext.trans ?_ (by assumption)))) (by first | assumption | omega | (rw [sz_zero]; omega)) _ _ _ _ (by first | exact NN.nil _ | assumption | exact NN.ext (by assumption) (by repeat (first | assumption | exact Ext.refl _ | refine Ext.alloc ?_ _ | refine Ext.drew ?_ | refine Ext.setB ?_ (by first | omega | (simp only [size_alloc, size_setB, size_drew]; omega)) _ | exact Ext.trans (by assumption) (by assumption) | refine Ext.trans ?_ (by assumption)))) (by first | assumption | omega | (rw [sz_zero]; omega)) (by show yarg f 2 ≤ 100000000; omega)) ?_)
                    rintro _ w46_20 ⟨hE46_20, s63, rfl, hN63⟩
                    refine ⟨fun _ => (by repeat (first | assumption | exact Ext.refl _ | refine Ext.alloc ?_ _ | refine Ext.drew ?_ | refine Ext.setB ?_ (by first | omega | (simp only [size_alloc, size_setB, size_drew]; omega)) _ | exact Ext.trans (by assumption) (by assumption) | refine Ext.trans ?_ (by assumption))), ?_⟩
                    have hz46_20 := hE46_20.1
                    try simp only [size_alloc, size_setB, size_drew] at hz46_20
                    replace hN63 : PB w46_20 s63 (ycode f) := hN63
                    have hl63 := PB.len hN63
                    rw [hcdl] at hl63
                    refine WH_nil ?_
                    refine F_q (i := 12) rfl (by kernel_rfl) ?_
                    refine WH_p (PS_b121_0_5_13_10 (k := 5) rfl rfl rfl hsbl rfl) rfl ?_
                    rw [show ((s53.1, s53.2.1, s53.2.2) : SV) = s53 from rfl, show ((s63.1, s63.2.1, s63.2.2) : SV) = s63 from rfl]
                    have hszk := encYF_sz (x := kYF 5 false (none, 0, 0) s53 s63 (List.replicate 20 0) f.self) hrep hsbl
                    have honek := one_YF (kYF 5 false (none, 0, 0) s53 s63 (List.replicate 20 0) f.self)
                    refine WH_nil ?_
                    refine F_fork1B (i := 14) (by kernel_rfl) rfl ?_
                    · refine WH_allocG Hvac.zeroValue121 ?_
                      intro b11 v11 hg11 hE11 hH11 hl11
                      try simp only [size_alloc, size_setB, size_drew] at hg11
                      have hzz11 := hE11.1
                      try simp only [size_alloc, size_setB, size_drew] at hzz11
                      replace hH11 : Hb v11 b11 (.cells ((encYF fr0).toArray) 121 (0, 0)) := hH11
                      refine ⟨fun _ => (by repeat (first | assumption | exact Ext.refl _ | refine Ext.alloc ?_ _ | refine Ext.drew ?_ | refine Ext.setB ?_ (by first | omega | (simp only [size_alloc, size_setB, size_drew]; omega)) _ | exact Ext.trans (by assumption) (by assumption) | refine Ext.trans ?_ (by assumption))), ?_⟩
                      refine WH_nil ?_
                      refine F_q (i := 14) rfl (by kernel_rfl) ?_
                      first | refine WH_storeW Hvac.sizeOf121 rfl (v := .agg _) rfl (Hb.h (by repeat (first | assumption | exact Hb.newY _ _ | refine Hb.alloc ?_ | refine Hb.drew ?_ | refine Hb.ext (by assumption) ?_ | exact Hb.setSameL (by first | omega | (simp only [size_alloc, size_setB, size_drew]; omega)) | exact Hb.setSame (by assumption) | refine Hb.set (by first | omega | (simp only [size_alloc, size_setB, size_drew]; omega)) ?_ ))) rfl (by first | omega | assumption | rfl | decide | exact Nat.le_refl _ | (simp only [size_ic, Value.cells]; omega) | (simp [encWs]; done) | (simp; omega) | simp | exact encYA_sz (by assumption) | exact encYT_sz (by assumption) | exact encYM_sz (by assumption)) (by first | omega | assumption | rfl | decide | exact Nat.le_refl _ | (simp only [size_ic, Value.cells]; omega) | (simp [encWs]; done) | (simp; omega) | simp | exact encYA_sz (by assumption) | exact encYT_sz (by assumption) | exact encYM_sz (by assumption)) (by first | exact oneCell_ic | assumption | exact one_Ws2 _ | exact one_YA2 _ | exact one_YSl2 _ | exact one_YM2 _ | exact one_YT2 _ | exact one_L2 _) (fun h => by cases h) ?_ | refine WH_store Hvac.sizeOf121 rfl (v := .agg _) rfl (Hb.h (by repeat (first | assumption | exact Hb.newY _ _ | refine Hb.alloc ?_ | refine Hb.drew ?_ | refine Hb.ext (by assumption) ?_ | exact Hb.setSameL (by first | omega | (simp only [size_alloc, size_setB, size_drew]; omega)) | exact Hb.setSame (by assumption) | refine Hb.set (by first | omega | (simp only [size_alloc, size_setB, size_drew]; omega)) ?_ ))) (by first | omega | assumption | rfl | decide | exact Nat.le_refl _ | (simp only [size_ic, Value.cells]; omega) | (simp [encWs]; done) | (simp; omega) | simp | exact encYA_sz (by assumption) | exact encYT_sz (by assumption) | exact encYM_sz (by assumption)) (by first | omega | assumption | rfl | decide | exact Nat.le_refl _ | (simp only [size_ic, Value.cells]; omega) | (simp [encWs]; done) | (simp; omega) | simp | exact encYA_sz (by assumption) | exact encYT_sz (by assumption) | exact encYM_sz (by assumption)) (by first | exact oneCell_ic | assumption | exact one_Ws2 _ | exact one_YA2 _ | exact one_YSl2 _ | exact one_YM2 _ | exact one_YT2 _ | exact one_L2 _) (fun h => by cases h) ?_
                      refine WH_nil ?_
                      refine F_end ?_
                      refine thn_normal ?_
                      exact ⟨b11, s53, s63, ⟨rfl, rfl, rfl, rfl, rfl, rfl, rfl, trivial⟩, (by repeat (first | assumption | exact Ext.refl _ | refine Ext.alloc ?_ _ | refine Ext.drew ?_ | refine Ext.setB ?_ (by first | omega | (simp only [size_alloc, size_setB, size_drew]; omega)) _ | refine Ext.trans ?_ (by assumption))), by omega, by omega, Hb.mk (Hb.h (by repeat (first | assumption | exact Hb.newY _ _ | refine Hb.alloc ?_ | refine Hb.drew ?_ | refine Hb.ext (by assumption) ?_ | exact Hb.setSameL (by first | omega | (simp only [size_alloc, size_setB, size_drew]; omega)) | exact Hb.setSame (by assumption) | refine Hb.set (by first | omega | (simp only [size_alloc, size_setB, size_drew]; omega)) ?_ ))), Hb.mk (Hb.h (by repeat (first | assumption | exact Hb.newY _ _ | refine Hb.alloc ?_ | refine Hb.drew ?_ | refine Hb.ext (by assumption) ?_ | exact Hb.setSameL (by first | omega | (simp only [size_alloc, size_setB, size_drew]; omega)) | exact Hb.setSame (by assumption) | refine Hb.set (by first | omega | (simp only [size_alloc, size_setB, size_drew]; omega)) ?_ ))), NN.b121 (NN.ext hN53 (by repeat (first | assumption | exact Ext.refl _ | refine Ext.alloc ?_ _ | refine Ext.drew ?_ | refine Ext.setB ?_ (by first | omega | (simp only [size_alloc, size_setB, size_drew]; omega)) _ | refine Ext.trans ?_ (by assumption)))) (Hb.mk (Hb.h (by repeat (first | assumption | exact Hb.newY _ _ | refine Hb.alloc ?_ | refine Hb.drew ?_ | refine Hb.ext (by assumption) ?_ | exact Hb.setSameL (by first | omega | (simp only [size_alloc, size_setB, size_drew]; omega)) | exact Hb.setSame (by assumption) | refine Hb.set (by first | omega | (simp only [size_alloc, size_setB, size_drew]; omega)) ?_ )))), PB.b121 (PB.ext hN63 (by repeat (first | assumption | exact Ext.refl _ | refine Ext.alloc ?_ _ | refine Ext.drew ?_ | refine Ext.setB ?_ (by first | omega | (simp only [size_alloc, size_setB, size_drew]; omega)) _ | refine Ext.trans ?_ (by assumption)))) (Hb.mk (Hb.h (by repeat (first | assumption | exact Hb.newY _ _ | refine Hb.alloc ?_ | refine Hb.drew ?_ | refine Hb.ext (by assumption) ?_ | exact Hb.setSameL (by first | omega | (simp only [size_alloc, size_setB, size_drew]; omega)) | exact Hb.setSame (by assumption) | refine Hb.set (by first | omega | (simp only [size_alloc, size_setB, size_drew]; omega)) ?_ )))), NN.b121 (NN.ext hnc10 (by repeat (first | assumption | exact Ext.refl _ | refine Ext.alloc ?_ _ | refine Ext.drew ?_ | refine Ext.setB ?_ (by first | omega | (simp only [size_alloc, size_setB, size_drew]; omega)) _ | refine Ext.trans ?_ (by assumption)))) (Hb.mk (Hb.h (by repeat (first | assumption | exact Hb.newY _ _ | refine Hb.alloc ?_ | refine Hb.drew ?_ | refine Hb.ext (by assumption) ?_ | exact Hb.setSameL (by first | omega | (simp only [size_alloc, size_setB, size_drew]; omega)) | exact Hb.setSame (by assumption) | refine Hb.set (by first | omega | (simp only [size_alloc, size_setB, size_drew]; omega)) ?_ ))))⟩
                  · refine WH_allocG Hvac.zeroValue121 ?_
                    intro b11 v11 hg11 hE11 hH11 hl11
                    try simp only [size_alloc, size_setB, size_drew] at hg11
                    have hzz11 := hE11.1
                    try simp only [size_alloc, size_setB, size_drew] at hzz11
                    replace hH11 : Hb v11 b11 (.cells ((encYF fr0).toArray) 121 (0, 0)) := hH11
                    refine ⟨fun _ => (by repeat (first | assumption | exact Ext.refl _ | refine Ext.alloc ?_ _ | refine Ext.drew ?_ | refine Ext.setB ?_ (by first | omega | (simp only [size_alloc, size_setB, size_drew]; omega)) _ | exact Ext.trans (by assumption) (by assumption) | refine Ext.trans ?_ (by assumption))), ?_⟩
                    refine WH_nil ?_
                    refine F_q (i := 11) rfl (by kernel_rfl) ?_
                    refine WH_call Hvac.call46 (by rfl) (Ret.mono (yRead_spec _ (OmB.ext hO (by repeat (first | assumption | exact Ext.refl _ | refine Ext.alloc ?_ _ | refine Ext.drew ?_ | refine Ext.setB ?_ (by first | omega | (simp only [size_alloc, size_setB, size_drew]; omega)) _ | exact Ext.trans (by assumption) (by assumption) | refine Ext.trans ?_ (by assumption)))) _ _ _ _ (by first | assumption | exact FrS.ext (by assumption) (by repeat (first | assumption | exact Ext.refl _ | refine Ext.alloc ?_ _ | refine Ext.drew ?_ | refine Ext.setB ?_ (by first | omega | (simp only [size_alloc, size_setB, size_drew]; omega)) _ | exact Ext.trans (by assumption) (by assumption) | refine Ext.trans ?_ (by assumption)))) hP _ _ _ _ (by first | exact NN.nil _ | assumption | exact NN.ext (by assumption) (by repeat (first | assumption | exact Ext.refl _ | refine Ext.alloc ?_ _ | refine Ext.drew ?_ | refine Ext.setB ?_ (by first | omega | (simp only [size_alloc, size_setB, size_drew]; omega)) _ | exact Ext.trans (by assumption) (by assumption) | refine Ext.trans ?_ (by assumption)))) (by first | assumption | omega | (rw [sz_zero]; omega)) _ _ _ _ (by first | exact NN.nil _ | assumption | exact NN.ext (by assumption) (by repeat (first | assumption | exact Ext.refl _ | refine Ext.alloc ?_ _ | refine Ext.drew ?_ | refine Ext.setB ?_ (by first | omega | (simp only [size_alloc, size_setB, size_drew]; omega)) _ | exact Ext.trans (by assumption) (by assumption) | refine Ext.trans ?_ (by assumption)))) (by first | assumption | omega | (rw [sz_zero]; omega)) (by show yarg f 2 ≤ 100000000; omega)) ?_)
                    rintro _ w46_21 ⟨hE46_21, s63, rfl, hN63⟩
                    refine ⟨fun _ => (by repeat (first | assumption | exact Ext.refl _ | refine Ext.alloc ?_ _ | refine Ext.drew ?_ | refine Ext.setB ?_ (by first | omega | (simp only [size_alloc, size_setB, size_drew]; omega)) _ | exact Ext.trans (by assumption) (by assumption) | refine Ext.trans ?_ (by assumption))), ?_⟩
                    have hz46_21 := hE46_21.1
                    try simp only [size_alloc, size_setB, size_drew] at hz46_21
                    replace hN63 : PB w46_21 s63 (ycode f) := hN63
                    have hl63 := PB.len hN63
                    rw [hcdl] at hl63
                    refine WH_nil ?_
                    refine F_q (i := 12) rfl (by kernel_rfl) ?_
                    refine WH_p (PS_b121_0_5_13_10 (k := 5) rfl rfl rfl hsbl rfl) rfl ?_
                    rw [show ((s53.1, s53.2.1, s53.2.2) : SV) = s53 from rfl, show ((s63.1, s63.2.1, s63.2.2) : SV) = s63 from rfl]
                    have hszk := encYF_sz (x := kYF 5 false (none, 0, 0) s53 s63 (List.replicate 20 0) f.self) hrep hsbl
                    have honek := one_YF (kYF 5 false (none, 0, 0) s53 s63 (List.replicate 20 0) f.self)
                    refine WH_nil ?_
                    refine F_q (i := 14) rfl (by kernel_rfl) ?_
                    first | refine WH_storeW Hvac.sizeOf121 rfl (v := .agg _) rfl (Hb.h (by repeat (first | assumption | exact Hb.newY _ _ | refine Hb.alloc ?_ | refine Hb.drew ?_ | refine Hb.ext (by assumption) ?_ | exact Hb.setSameL (by first | omega | (simp only [size_alloc, size_setB, size_drew]; omega)) | exact Hb.setSame (by assumption) | refine Hb.set (by first | omega | (simp only [size_alloc, size_setB, size_drew]; omega)) ?_ ))) rfl (by first | omega | assumption | rfl | decide | exact Nat.le_refl _ | (simp only [size_ic, Value.cells]; omega) | (simp [encWs]; done) | (simp; omega) | simp | exact encYA_sz (by assumption) | exact encYT_sz (by assumption) | exact encYM_sz (by assumption)) (by first | omega | assumption | rfl | decide | exact Nat.le_refl _ | (simp only [size_ic, Value.cells]; omega) | (simp [encWs]; done) | (simp; omega) | simp | exact encYA_sz (by assumption) | exact encYT_sz (by assumption) | exact encYM_sz (by assumption)) (by first | exact oneCell_ic | assumption | exact one_Ws2 _ | exact one_YA2 _ | exact one_YSl2 _ | exact one_YM2 _ | exact one_YT2 _ | exact one_L2 _) (fun h => by cases h) ?_ | refine WH_store Hvac.sizeOf121 rfl (v := .agg _) rfl (Hb.h (by repeat (first | assumption | exact Hb.newY _ _ | refine Hb.alloc ?_ | refine Hb.drew ?_ | refine Hb.ext (by assumption) ?_ | exact Hb.setSameL (by first | omega | (simp only [size_alloc, size_setB, size_drew]; omega)) | exact Hb.setSame (by assumption) | refine Hb.set (by first | omega | (simp only [size_alloc, size_setB, size_drew]; omega)) ?_ ))) (by first | omega | assumption | rfl | decide | exact Nat.le_refl _ | (simp only [size_ic, Value.cells]; omega) | (simp [encWs]; done) | (simp; omega) | simp | exact encYA_sz (by assumption) | exact encYT_sz (by assumption) | exact encYM_sz (by assumption)) (by first | omega | assumption | rfl | decide | exact Nat.le_refl _ | (simp only [size_ic, Value.cells]; omega) | (simp [encWs]; done) | (simp; omega) | simp | exact encYA_sz (by assumption) | exact encYT_sz (by assumption) | exact encYM_sz (by assumption)) (by first | exact oneCell_ic | assumption | exact one_Ws2 _ | exact one_YA2 _ | exact one_YSl2 _ | exact one_YM2 _ | exact one_YT2 _ | exact one_L2 _) (fun h => by cases h) ?_
                    refine WH_nil ?_
                    refine F_end ?_
                    refine thn_normal ?_
                    exact ⟨b11, s53, s63, ⟨rfl, rfl, rfl, rfl, rfl, rfl, rfl, trivial⟩, (by repeat (first | assumption | exact Ext.refl _ | refine Ext.alloc ?_ _ | refine Ext.drew ?_ | refine Ext.setB ?_ (by first | omega | (simp only [size_alloc, size_setB, size_drew]; omega)) _ | refine Ext.trans ?_ (by assumption))), by omega, by omega, Hb.mk (Hb.h (by repeat (first | assumption | exact Hb.newY _ _ | refine Hb.alloc ?_ | refine Hb.drew ?_ | refine Hb.ext (by assumption) ?_ | exact Hb.setSameL (by first | omega | (simp only [size_alloc, size_setB, size_drew]; omega)) | exact Hb.setSame (by assumption) | refine Hb.set (by first | omega | (simp only [size_alloc, size_setB, size_drew]; omega)) ?_ ))), Hb.mk (Hb.h (by repeat (first | assumption | exact Hb.newY _ _ | refine Hb.alloc ?_ | refine Hb.drew ?_ | refine Hb.ext (by assumption) ?_ | exact Hb.setSameL (by first | omega | (simp only [size_alloc, size_setB, size_drew]; omega)) | exact Hb.setSame (by assumption) | refine Hb.set (by first | omega | (simp only [size_alloc, size_setB, size_drew]; omega)) ?_ ))), NN.b121 (NN.ext hN53 (by repeat (first | assumption | exact Ext.refl _ | refine Ext.alloc ?_ _ | refine Ext.drew ?_ | refine Ext.setB ?_ (by first | omega | (simp only [size_alloc, size_setB, size_drew]; omega)) _ | refine Ext.trans ?_ (by assumption)))) (Hb.mk (Hb.h (by repeat (first | assumption | exact Hb.newY _ _ | refine Hb.alloc ?_ | refine Hb.drew ?_ | refine Hb.ext (by assumption) ?_ | exact Hb.setSameL (by first | omega | (simp only [size_alloc, size_setB, size_drew]; omega)) | exact Hb.setSame (by assumption) | refine Hb.set (by first | omega | (simp only [size_alloc, size_setB, size_drew]; omega)) ?_ )))), PB.b121 (PB.ext hN63 (by repeat (first | assumption | exact Ext.refl _ | refine Ext.alloc ?_ _ | refine Ext.drew ?_ | refine Ext.setB ?_ (by first | omega | (simp only [size_alloc, size_setB, size_drew]; omega)) _ | refine Ext.trans ?_ (by assumption)))) (Hb.mk (Hb.h (by repeat (first | assumption | exact Hb.newY _ _ | refine Hb.alloc ?_ | refine Hb.drew ?_ | refine Hb.ext (by assumption) ?_ | exact Hb.setSameL (by first | omega | (simp only [size_alloc, size_setB, size_drew]; omega)) | exact Hb.setSame (by assumption) | refine Hb.set (by first | omega | (simp only [size_alloc, size_setB, size_drew]; omega)) ?_ )))), NN.b121 (NN.ext hnc10 (by repeat (first | assumption | exact Ext.refl _ | refine Ext.alloc ?_ _ | refine Ext.drew ?_ | refine Ext.setB ?_ (by first | omega | (simp only [size_alloc, size_setB, size_drew]; omega)) _ | refine Ext.trans ?_ (by assumption)))) (Hb.mk (Hb.h (by repeat (first | assumption | exact Hb.newY _ _ | refine Hb.alloc ?_ | refine Hb.drew ?_ | refine Hb.ext (by assumption) ?_ | exact Hb.setSameL (by first | omega | (simp only [size_alloc, size_setB, size_drew]; omega)) | exact Hb.setSame (by assumption) | refine Hb.set (by first | omega | (simp only [size_alloc, size_setB, size_drew]; omega)) ?_ ))))⟩
                · refine WH_allocG Hvac.zeroValue121 ?_
                  intro b11 v11 hg11 hE11 hH11 hl11
                  try simp only [size_alloc, size_setB, size_drew] at hg11
                  have hzz11 := hE11.1
                  try simp only [size_alloc, size_setB, size_drew] at hzz11
                  replace hH11 : Hb v11 b11 (.cells ((encYF fr0).toArray) 121 (0, 0)) := hH11
                  refine ⟨fun _ => (by repeat (first | assumption | exact Ext.refl _ | refine Ext.alloc ?_ _ | refine Ext.drew ?_ | refine Ext.setB ?_ (by first | omega | (simp only [size_alloc, size_setB, size_drew]; omega)) _ | exact Ext.trans (by assumption) (by assumption) | refine Ext.trans ?_ (by assumption))), ?_⟩
                  refine WH_nil ?_
                  refine F_q (i := 10) rfl (by kernel_rfl) ?_
                  refine WH_call Hvac.call47 (by rfl) (Ret.mono (yArg_spec _ (OmB.ext hO (by repeat (first | assumption | exact Ext.refl _ | refine Ext.alloc ?_ _ | refine Ext.drew ?_ | refine Ext.setB ?_ (by first | omega | (simp only [size_alloc, size_setB, size_drew]; omega)) _ | exact Ext.trans (by assumption) (by assumption) | refine Ext.trans ?_ (by assumption)))) _ _ _ _ (by first | assumption | exact FrS.ext (by assumption) (by repeat (first | assumption | exact Ext.refl _ | refine Ext.alloc ?_ _ | refine Ext.drew ?_ | refine Ext.setB ?_ (by first | omega | (simp only [size_alloc, size_setB, size_drew]; omega)) _ | exact Ext.trans (by assumption) (by assumption) | refine Ext.trans ?_ (by assumption)))) hP _ (by decide)) ?_)
                  rintro _ w47_22 ⟨hE47_22, s47_22, rfl, hN47_22, hs47_22⟩
                  refine ⟨fun _ => (by repeat (first | assumption | exact Ext.refl _ | refine Ext.alloc ?_ _ | refine Ext.drew ?_ | refine Ext.setB ?_ (by first | omega | (simp only [size_alloc, size_setB, size_drew]; omega)) _ | exact Ext.trans (by assumption) (by assumption) | refine Ext.trans ?_ (by assumption))), ?_⟩
                  have hz47_22 := hE47_22.1
                  try simp only [size_alloc, size_setB, size_drew] at hz47_22
                  refine WH_nil ?_
                  refine F_q (i := 11) rfl (by kernel_rfl) ?_
                  refine WH_call Hvac.call46 (by rfl) (Ret.mono (yRead_spec _ (OmB.ext hO (by repeat (first | assumption | exact Ext.refl _ | refine Ext.alloc ?_ _ | refine Ext.drew ?_ | refine Ext.setB ?_ (by first | omega | (simp only [size_alloc, size_setB, size_drew]; omega)) _ | exact Ext.trans (by assumption) (by assumption) | refine Ext.trans ?_ (by assumption)))) _ _ _ _ (by first | assumption | exact FrS.ext (by assumption) (by repeat (first | assumption | exact Ext.refl _ | refine Ext.alloc ?_ _ | refine Ext.drew ?_ | refine Ext.setB ?_ (by first | omega | (simp only [size_alloc, size_setB, size_drew]; omega)) _ | exact Ext.trans (by assumption) (by assumption) | refine Ext.trans ?_ (by assumption)))) hP _ _ _ _ (by first | exact NN.nil _ | assumption | exact NN.ext (by assumption) (by repeat (first | assumption | exact Ext.refl _ | refine Ext.alloc ?_ _ | refine Ext.drew ?_ | refine Ext.setB ?_ (by first | omega | (simp only [size_alloc, size_setB, size_drew]; omega)) _ | exact Ext.trans (by assumption) (by assumption) | refine Ext.trans ?_ (by assumption)))) (by first | assumption | omega | (rw [sz_zero]; omega)) _ _ _ _ (by first | exact NN.nil _ | assumption | exact NN.ext (by assumption) (by repeat (first | assumption | exact Ext.refl _ | refine Ext.alloc ?_ _ | refine Ext.drew ?_ | refine Ext.setB ?_ (by first | omega | (simp only [size_alloc, size_setB, size_drew]; omega)) _ | exact Ext.trans (by assumption) (by assumption) | refine Ext.trans ?_ (by assumption)))) (by first | assumption | omega | (rw [sz_zero]; omega)) (by show yarg f 2 ≤ 100000000; omega)) ?_)
                  rintro _ w46_23 ⟨hE46_23, s63, rfl, hN63⟩
                  refine ⟨fun _ => (by repeat (first | assumption | exact Ext.refl _ | refine Ext.alloc ?_ _ | refine Ext.drew ?_ | refine Ext.setB ?_ (by first | omega | (simp only [size_alloc, size_setB, size_drew]; omega)) _ | exact Ext.trans (by assumption) (by assumption) | refine Ext.trans ?_ (by assumption))), ?_⟩
                  have hz46_23 := hE46_23.1
                  try simp only [size_alloc, size_setB, size_drew] at hz46_23
                  replace hN63 : PB w46_23 s63 (ycode f) := hN63
                  have hl63 := PB.len hN63
                  rw [hcdl] at hl63
                  refine WH_nil ?_
                  refine F_q (i := 12) rfl (by kernel_rfl) ?_
                  refine WH_p (PS_b121_0_5_13_10 (k := 5) rfl rfl rfl hsbl rfl) rfl ?_
                  rw [show ((s53.1, s53.2.1, s53.2.2) : SV) = s53 from rfl, show ((s63.1, s63.2.1, s63.2.2) : SV) = s63 from rfl]
                  have hszk := encYF_sz (x := kYF 5 false (none, 0, 0) s53 s63 (List.replicate 20 0) f.self) hrep hsbl
                  have honek := one_YF (kYF 5 false (none, 0, 0) s53 s63 (List.replicate 20 0) f.self)
                  refine WH_nil ?_
                  refine F_q (i := 14) rfl (by kernel_rfl) ?_
                  first | refine WH_storeW Hvac.sizeOf121 rfl (v := .agg _) rfl (Hb.h (by repeat (first | assumption | exact Hb.newY _ _ | refine Hb.alloc ?_ | refine Hb.drew ?_ | refine Hb.ext (by assumption) ?_ | exact Hb.setSameL (by first | omega | (simp only [size_alloc, size_setB, size_drew]; omega)) | exact Hb.setSame (by assumption) | refine Hb.set (by first | omega | (simp only [size_alloc, size_setB, size_drew]; omega)) ?_ ))) rfl (by first | omega | assumption | rfl | decide | exact Nat.le_refl _ | (simp only [size_ic, Value.cells]; omega) | (simp [encWs]; done) | (simp; omega) | simp | exact encYA_sz (by assumption) | exact encYT_sz (by assumption) | exact encYM_sz (by assumption)) (by first | omega | assumption | rfl | decide | exact Nat.le_refl _ | (simp only [size_ic, Value.cells]; omega) | (simp [encWs]; done) | (simp; omega) | simp | exact encYA_sz (by assumption) | exact encYT_sz (by assumption) | exact encYM_sz (by assumption)) (by first | exact oneCell_ic | assumption | exact one_Ws2 _ | exact one_YA2 _ | exact one_YSl2 _ | exact one_YM2 _ | exact one_YT2 _ | exact one_L2 _) (fun h => by cases h) ?_ | refine WH_store Hvac.sizeOf121 rfl (v := .agg _) rfl (Hb.h (by repeat (first | assumption | exact Hb.newY _ _ | refine Hb.alloc ?_ | refine Hb.drew ?_ | refine Hb.ext (by assumption) ?_ | exact Hb.setSameL (by first | omega | (simp only [size_alloc, size_setB, size_drew]; omega)) | exact Hb.setSame (by assumption) | refine Hb.set (by first | omega | (simp only [size_alloc, size_setB, size_drew]; omega)) ?_ ))) (by first | omega | assumption | rfl | decide | exact Nat.le_refl _ | (simp only [size_ic, Value.cells]; omega) | (simp [encWs]; done) | (simp; omega) | simp | exact encYA_sz (by assumption) | exact encYT_sz (by assumption) | exact encYM_sz (by assumption)) (by first | omega | assumption | rfl | decide | exact Nat.le_refl _ | (simp only [size_ic, Value.cells]; omega) | (simp [encWs]; done) | (simp; omega) | simp | exact encYA_sz (by assumption) | exact encYT_sz (by assumption) | exact encYM_sz (by assumption)) (by first | exact oneCell_ic | assumption | exact one_Ws2 _ | exact one_YA2 _ | exact one_YSl2 _ | exact one_YM2 _ | exact one_YT2 _ | exact one_L2 _) (fun h => by cases h) ?_
                  refine WH_nil ?_
                  refine F_end ?_
                  refine thn_normal ?_
                  exact ⟨b11, s53, s63, ⟨rfl, rfl, rfl, rfl, rfl, rfl, rfl, trivial⟩, (by repeat (first | assumption | exact Ext.refl _ | refine Ext.alloc ?_ _ | refine Ext.drew ?_ | refine Ext.setB ?_ (by first | omega | (simp only [size_alloc, size_setB, size_drew]; omega)) _ | refine Ext.trans ?_ (by assumption))), by omega, by omega, Hb.mk (Hb.h (by repeat (first | assumption | exact Hb.newY _ _ | refine Hb.alloc ?_ | refine Hb.drew ?_ | refine Hb.ext (by assumption) ?_ | exact Hb.setSameL (by first | omega | (simp only [size_alloc, size_setB, size_drew]; omega)) | exact Hb.setSame (by assumption) | refine Hb.set (by first | omega | (simp only [size_alloc, size_setB, size_drew]; omega)) ?_ ))), Hb.mk (Hb.h (by repeat (first | assumption | exact Hb.newY _ _ | refine Hb.alloc ?_ | refine Hb.drew ?_ | refine Hb.ext (by assumption) ?_ | exact Hb.setSameL (by first | omega | (simp only [size_alloc, size_setB, size_drew]; omega)) | exact Hb.setSame (by assumption) | refine Hb.set (by first | omega | (simp only [size_alloc, size_setB, size_drew]; omega)) ?_ ))), NN.b121 (NN.ext hN53 (by repeat (first | assumption | exact Ext.refl _ | refine Ext.alloc ?_ _ | refine Ext.drew ?_ | refine Ext.setB ?_ (by first | omega | (simp only [size_alloc, size_setB, size_drew]; omega)) _ | refine Ext.trans ?_ (by assumption)))) (Hb.mk (Hb.h (by repeat (first | assumption | exact Hb.newY _ _ | refine Hb.alloc ?_ | refine Hb.drew ?_ | refine Hb.ext (by assumption) ?_ | exact Hb.setSameL (by first | omega | (simp only [size_alloc, size_setB, size_drew]; omega)) | exact Hb.setSame (by assumption) | refine Hb.set (by first | omega | (simp only [size_alloc, size_setB, size_drew]; omega)) ?_ )))), PB.b121 (PB.ext hN63 (by repeat (first | assumption | exact Ext.refl _ | refine Ext.alloc ?_ _ | refine Ext.drew ?_ | refine Ext.setB ?_ (by first | omega | (simp only [size_alloc, size_setB, size_drew]; omega)) _ | refine Ext.trans ?_ (by assumption)))) (Hb.mk (Hb.h (by repeat (first | assumption | exact Hb.newY _ _ | refine Hb.alloc ?_ | refine Hb.drew ?_ | refine Hb.ext (by assumption) ?_ | exact Hb.setSameL (by first | omega | (simp only [size_alloc, size_setB, size_drew]; omega)) | exact Hb.setSame (by assumption) | refine Hb.set (by first | omega | (simp only [size_alloc, size_setB, size_drew]; omega)) ?_ )))), NN.b121 (NN.ext hnc10 (by repeat (first | assumption | exact Ext.refl _ | refine Ext.alloc ?_ _ | refine Ext.drew ?_ | refine Ext.setB ?_ (by first | omega | (simp only [size_alloc, size_setB, size_drew]; omega)) _ | refine Ext.trans ?_ (by assumption)))) (Hb.mk (Hb.h (by repeat (first | assumption | exact Hb.newY _ _ | refine Hb.alloc ?_ | refine Hb.drew ?_ | refine Hb.ext (by assumption) ?_ | exact Hb.setSameL (by first | omega | (simp only [size_alloc, size_setB, size_drew]; omega)) | exact Hb.setSame (by assumption) | refine Hb.set (by first | omega | (simp only [size_alloc, size_setB, size_drew]; omega)) ?_ ))))⟩
              · refine WH_allocG Hvac.zeroValue121 ?_
                intro b11 v11 hg11 hE11 hH11 hl11
                try simp only [size_alloc, size_setB, size_drew] at hg11
                have hzz11 := hE11.1
                try simp only [size_alloc, size_setB, size_drew] at hzz11
                replace hH11 : Hb v11 b11 (.cells ((encYF fr0).toArray) 121 (0, 0)) := hH11
                refine ⟨fun _ => (by repeat (first | assumption | exact Ext.refl _ | refine Ext.alloc ?_ _ | refine Ext.drew ?_ | refine Ext.setB ?_ (by first | omega | (simp only [size_alloc, size_setB, size_drew]; omega)) _ | exact Ext.trans (by assumption) (by assumption) | refine Ext.trans ?_ (by assumption))), ?_⟩
                refine WH_nil ?_
                refine F_q (i := 8) rfl (by kernel_rfl) ?_
                refine WH_call Hvac.call47 (by rfl) (Ret.mono (yArg_spec _ (OmB.ext hO (by repeat (first | assumption | exact Ext.refl _ | refine Ext.alloc ?_ _ | refine Ext.drew ?_ | refine Ext.setB ?_ (by first | omega | (simp only [size_alloc, size_setB, size_drew]; omega)) _ | exact Ext.trans (by assumption) (by assumption) | refine Ext.trans ?_ (by assumption)))) _ _ _ _ (by first | assumption | exact FrS.ext (by assumption) (by repeat (first | assumption | exact Ext.refl _ | refine Ext.alloc ?_ _ | refine Ext.drew ?_ | refine Ext.setB ?_ (by first | omega | (simp only [size_alloc, size_setB, size_drew]; omega)) _ | exact Ext.trans (by assumption) (by assumption) | refine Ext.trans ?_ (by assumption)))) hP _ (by decide)) ?_)
                rintro _ w47_24 ⟨hE47_24, s47_24, rfl, hN47_24, hs47_24⟩
                refine ⟨fun _ => (by repeat (first | assumption | exact Ext.refl _ | refine Ext.alloc ?_ _ | refine Ext.drew ?_ | refine Ext.setB ?_ (by first | omega | (simp only [size_alloc, size_setB, size_drew]; omega)) _ | exact Ext.trans (by assumption) (by assumption) | refine Ext.trans ?_ (by assumption))), ?_⟩
                have hz47_24 := hE47_24.1
                try simp only [size_alloc, size_setB, size_drew] at hz47_24
                refine WH_nil ?_
                refine F_q (i := 9) rfl (by kernel_rfl) ?_
                refine WH_p (PS_move_ptr rfl) rfl ?_
                refine WH_nil ?_
                refine F_q (i := 10) rfl (by kernel_rfl) ?_
                refine WH_call Hvac.call47 (by rfl) (Ret.mono (yArg_spec _ (OmB.ext hO (by repeat (first | assumption | exact Ext.refl _ | refine Ext.alloc ?_ _ | refine Ext.drew ?_ | refine Ext.setB ?_ (by first | omega | (simp only [size_alloc, size_setB, size_drew]; omega)) _ | exact Ext.trans (by assumption) (by assumption) | refine Ext.trans ?_ (by assumption)))) _ _ _ _ (by first | assumption | exact FrS.ext (by assumption) (by repeat (first | assumption | exact Ext.refl _ | refine Ext.alloc ?_ _ | refine Ext.drew ?_ | refine Ext.setB ?_ (by first | omega | (simp only [size_alloc, size_setB, size_drew]; omega)) _ | exact Ext.trans (by assumption) (by assumption) | refine Ext.trans ?_ (by assumption)))) hP _ (by decide)) ?_)
                rintro _ w47_25 ⟨hE47_25, s47_25, rfl, hN47_25, hs47_25⟩
                refine ⟨fun _ => (by repeat (first | assumption | exact Ext.refl _ | refine Ext.alloc ?_ _ | refine Ext.drew ?_ | refine Ext.setB ?_ (by first | omega | (simp only [size_alloc, size_setB, size_drew]; omega)) _ | exact Ext.trans (by assumption) (by assumption) | refine Ext.trans ?_ (by assumption))), ?_⟩
                have hz47_25 := hE47_25.1
                try simp only [size_alloc, size_setB, size_drew] at hz47_25
                refine WH_nil ?_
                refine F_q (i := 11) rfl (by kernel_rfl) ?_
                refine WH_call Hvac.call46 (by rfl) (Ret.mono (yRead_spec _ (OmB.ext hO (by repeat (first | assumption | exact Ext.refl _ | refine Ext.alloc ?_ _ | refine Ext.drew ?_ | refine Ext.setB ?_ (by first | omega | (simp only [size_alloc, size_setB, size_drew]; omega)) _ | exact Ext.trans (by assumption) (by assumption) | refine Ext.trans ?_ (by assumption)))) _ _ _ _ (by first | assumption | exact FrS.ext (by assumption) (by repeat (first | assumption | exact Ext.refl _ | refine Ext.alloc ?_ _ | refine Ext.drew ?_ | refine Ext.setB ?_ (by first | omega | (simp only [size_alloc, size_setB, size_drew]; omega)) _ | exact Ext.trans (by assumption) (by assumption) | refine Ext.trans ?_ (by assumption)))) hP _ _ _ _ (by first | exact NN.nil _ | assumption | exact NN.ext (by assumption) (by repeat (first | assumption | exact Ext.refl _ | refine Ext.alloc ?_ _ | refine Ext.drew ?_ | refine Ext.setB ?_ (by first | omega | (simp only [size_alloc, size_setB, size_drew]; omega)) _ | exact Ext.trans (by assumption) (by assumption) | refine Ext.trans ?_ (by assumption)))) (by first | assumption | omega | (rw [sz_zero]; omega)) _ _ _ _ (by first | exact NN.nil _ | assumption | exact NN.ext (by assumption) (by repeat (first | assumption | exact Ext.refl _ | refine Ext.alloc ?_ _ | refine Ext.drew ?_ | refine Ext.setB ?_ (by first | omega | (simp only [size_alloc, size_setB, size_drew]; omega)) _ | exact Ext.trans (by assumption) (by assumption) | refine Ext.trans ?_ (by assumption)))) (by first | assumption | omega | (rw [sz_zero]; omega)) (by show yarg f 2 ≤ 100000000; omega)) ?_)
                rintro _ w46_26 ⟨hE46_26, s63, rfl, hN63⟩
                refine ⟨fun _ => (by repeat (first | assumption | exact Ext.refl _ | refine Ext.alloc ?_ _ | refine Ext.drew ?_ | refine Ext.setB ?_ (by first | omega | (simp only [size_alloc, size_setB, size_drew]; omega)) _ | exact Ext.trans (by assumption) (by assumption) | refine Ext.trans ?_ (by assumption))), ?_⟩
                have hz46_26 := hE46_26.1
                try simp only [size_alloc, size_setB, size_drew] at hz46_26
                replace hN63 : PB w46_26 s63 (ycode f) := hN63
                have hl63 := PB.len hN63
                rw [hcdl] at hl63
                refine WH_nil ?_
                refine F_q (i := 12) rfl (by kernel_rfl) ?_
                refine WH_p (PS_b121_0_5_13_10 (k := 5) rfl rfl rfl hsbl rfl) rfl ?_
                rw [show ((s53.1, s53.2.1, s53.2.2) : SV) = s53 from rfl, show ((s63.1, s63.2.1, s63.2.2) : SV) = s63 from rfl]
                have hszk := encYF_sz (x := kYF 5 false (none, 0, 0) s53 s63 (List.replicate 20 0) f.self) hrep hsbl
                have honek := one_YF (kYF 5 false (none, 0, 0) s53 s63 (List.replicate 20 0) f.self)
                refine WH_nil ?_
                refine F_q (i := 14) rfl (by kernel_rfl) ?_
                first | refine WH_storeW Hvac.sizeOf121 rfl (v := .agg _) rfl (Hb.h (by repeat (first | assumption | exact Hb.newY _ _ | refine Hb.alloc ?_ | refine Hb.drew ?_ | refine Hb.ext (by assumption) ?_ | exact Hb.setSameL (by first | omega | (simp only [size_alloc, size_setB, size_drew]; omega)) | exact Hb.setSame (by assumption) | refine Hb.set (by first | omega | (simp only [size_alloc, size_setB, size_drew]; omega)) ?_ ))) rfl (by first | omega | assumption | rfl | decide | exact Nat.le_refl _ | (simp only [size_ic, Value.cells]; omega) | (simp [encWs]; done) | (simp; omega) | simp | exact encYA_sz (by assumption) | exact encYT_sz (by assumption) | exact encYM_sz (by assumption)) (by first | omega | assumption | rfl | decide | exact Nat.le_refl _ | (simp only [size_ic, Value.cells]; omega) | (simp [encWs]; done) | (simp; omega) | simp | exact encYA_sz (by assumption) | exact encYT_sz (by assumption) | exact encYM_sz (by assumption)) (by first | exact oneCell_ic | assumption | exact one_Ws2 _ | exact one_YA2 _ | exact one_YSl2 _ | exact one_YM2 _ | exact one_YT2 _ | exact one_L2 _) (fun h => by cases h) ?_ | refine WH_store Hvac.sizeOf121 rfl (v := .agg _) rfl (Hb.h (by repeat (first | assumption | exact Hb.newY _ _ | refine Hb.alloc ?_ | refine Hb.drew ?_ | refine Hb.ext (by assumption) ?_ | exact Hb.setSameL (by first | omega | (simp only [size_alloc, size_setB, size_drew]; omega)) | exact Hb.setSame (by assumption) | refine Hb.set (by first | omega | (simp only [size_alloc, size_setB, size_drew]; omega)) ?_ ))) (by first | omega | assumption | rfl | decide | exact Nat.le_refl _ | (simp only [size_ic, Value.cells]; omega) | (simp [encWs]; done) | (simp; omega) | simp | exact encYA_sz (by assumption) | exact encYT_sz (by assumption) | exact encYM_sz (by assumption)) (by first | omega | assumption | rfl | decide | exact Nat.le_refl _ | (simp only [size_ic, Value.cells]; omega) | (simp [encWs]; done) | (simp; omega) | simp | exact encYA_sz (by assumption) | exact encYT_sz (by assumption) | exact encYM_sz (by assumption)) (by first | exact oneCell_ic | assumption | exact one_Ws2 _ | exact one_YA2 _ | exact one_YSl2 _ | exact one_YM2 _ | exact one_YT2 _ | exact one_L2 _) (fun h => by cases h) ?_
                refine WH_nil ?_
                refine F_end ?_
                refine thn_normal ?_
                exact ⟨b11, s53, s63, ⟨rfl, rfl, rfl, rfl, rfl, rfl, rfl, trivial⟩, (by repeat (first | assumption | exact Ext.refl _ | refine Ext.alloc ?_ _ | refine Ext.drew ?_ | refine Ext.setB ?_ (by first | omega | (simp only [size_alloc, size_setB, size_drew]; omega)) _ | refine Ext.trans ?_ (by assumption))), by omega, by omega, Hb.mk (Hb.h (by repeat (first | assumption | exact Hb.newY _ _ | refine Hb.alloc ?_ | refine Hb.drew ?_ | refine Hb.ext (by assumption) ?_ | exact Hb.setSameL (by first | omega | (simp only [size_alloc, size_setB, size_drew]; omega)) | exact Hb.setSame (by assumption) | refine Hb.set (by first | omega | (simp only [size_alloc, size_setB, size_drew]; omega)) ?_ ))), Hb.mk (Hb.h (by repeat (first | assumption | exact Hb.newY _ _ | refine Hb.alloc ?_ | refine Hb.drew ?_ | refine Hb.ext (by assumption) ?_ | exact Hb.setSameL (by first | omega | (simp only [size_alloc, size_setB, size_drew]; omega)) | exact Hb.setSame (by assumption) | refine Hb.set (by first | omega | (simp only [size_alloc, size_setB, size_drew]; omega)) ?_ ))), NN.b121 (NN.ext hN53 (by repeat (first | assumption | exact Ext.refl _ | refine Ext.alloc ?_ _ | refine Ext.drew ?_ | refine Ext.setB ?_ (by first | omega | (simp only [size_alloc, size_setB, size_drew]; omega)) _ | refine Ext.trans ?_ (by assumption)))) (Hb.mk (Hb.h (by repeat (first | assumption | exact Hb.newY _ _ | refine Hb.alloc ?_ | refine Hb.drew ?_ | refine Hb.ext (by assumption) ?_ | exact Hb.setSameL (by first | omega | (simp only [size_alloc, size_setB, size_drew]; omega)) | exact Hb.setSame (by assumption) | refine Hb.set (by first | omega | (simp only [size_alloc, size_setB, size_drew]; omega)) ?_ )))), PB.b121 (PB.ext hN63 (by repeat (first | assumption | exact Ext.refl _ | refine Ext.alloc ?_ _ | refine Ext.drew ?_ | refine Ext.setB ?_ (by first | omega | (simp only [size_alloc, size_setB, size_drew]; omega)) _ | refine Ext.trans ?_ (by assumption)))) (Hb.mk (Hb.h (by repeat (first | assumption | exact Hb.newY _ _ | refine Hb.alloc ?_ | refine Hb.drew ?_ | refine Hb.ext (by assumption) ?_ | exact Hb.setSameL (by first | omega | (simp only [size_alloc, size_setB, size_drew]; omega)) | exact Hb.setSame (by assumption) | refine Hb.set (by first | omega | (simp only [size_alloc, size_setB, size_drew]; omega)) ?_ )))), NN.b121 (NN.ext hnc10 (by repeat (first | assumption | exact Ext.refl _ | refine Ext.alloc ?_ _ | refine Ext.drew ?_ | refine Ext.setB ?_ (by first | omega | (simp only [size_alloc, size_setB, size_drew]; omega)) _ | refine Ext.trans ?_ (by assumption)))) (Hb.mk (Hb.h (by repeat (first | assumption | exact Hb.newY _ _ | refine Hb.alloc ?_ | refine Hb.drew ?_ | refine Hb.ext (by assumption) ?_ | exact Hb.setSameL (by first | omega | (simp only [size_alloc, size_setB, size_drew]; omega)) | exact Hb.setSame (by assumption) | refine Hb.set (by first | omega | (simp only [size_alloc, size_setB, size_drew]; omega)) ?_ ))))⟩
            · refine WH_allocG Hvac.zeroValue121 ?_
              intro b11 v11 hg11 hE11 hH11 hl11
              try simp only [size_alloc, size_setB, size_drew] at hg11
              have hzz11 := hE11.1
              try simp only [size_alloc, size_setB, size_drew] at hzz11
              replace hH11 : Hb v11 b11 (.cells ((encYF fr0).toArray) 121 (0, 0)) := hH11
              refine ⟨fun _ => (by repeat (first | assumption | exact Ext.refl _ | refine Ext.alloc ?_ _ | refine Ext.drew ?_ | refine Ext.setB ?_ (by first | omega | (simp only [size_alloc, size_setB, size_drew]; omega)) _ | exact Ext.trans (by assumption) (by assumption) | refine Ext.trans ?_ (by assumption))), ?_⟩
              refine WH_nil ?_
              refine F_q (i := 1) rfl (by kernel_rfl) ?_
              refine WH_call Hvac.call79 (by rfl) (Ret.mono (nNorm_spec (OmB.ext hO (by repeat (first | assumption | exact Ext.refl _ | refine Ext.alloc ?_ _ | refine Ext.drew ?_ | refine Ext.setB ?_ (by first | omega | (simp only [size_alloc, size_setB, size_drew]; omega)) _ | exact Ext.trans (by assumption) (by assumption) | refine Ext.trans ?_ (by assumption)))) (by first | exact NN.nil _ | assumption | exact NN.ext (by assumption) (by repeat (first | assumption | exact Ext.refl _ | refine Ext.alloc ?_ _ | refine Ext.drew ?_ | refine Ext.setB ?_ (by first | omega | (simp only [size_alloc, size_setB, size_drew]; omega)) _ | exact Ext.trans (by assumption) (by assumption) | refine Ext.trans ?_ (by assumption)))) (by first | assumption | omega | (rw [sz_zero]; omega))) ?_)
              rintro _ w79_27 ⟨hE79_27, s53, rfl, hN53⟩
              refine ⟨fun _ => (by repeat (first | assumption | exact Ext.refl _ | refine Ext.alloc ?_ _ | refine Ext.drew ?_ | refine Ext.setB ?_ (by first | omega | (simp only [size_alloc, size_setB, size_drew]; omega)) _ | exact Ext.trans (by assumption) (by assumption) | refine Ext.trans ?_ (by assumption))), ?_⟩
              have hz79_27 := hE79_27.1
              try simp only [size_alloc, size_setB, size_drew] at hz79_27
              refine WH_nil ?_
              refine F_q (i := 2) rfl (by kernel_rfl) ?_
              refine WH_p (PS_move_ptr rfl) rfl ?_
              refine WH_nil ?_
              refine F_q (i := 3) rfl (by kernel_rfl) ?_
              refine WH_p (PS_nilCheck rfl) rfl ?_
              refine WH_nil ?_
              refine F_q (i := 4) rfl (by kernel_rfl) ?_
              refine WH_p (PS_fieldAddr 12 Hvac.runUnderlying121 rfl Hvac.sizeOf25 rfl rfl) rfl ?_
              refine WH_nil ?_
              refine F_q (i := 5) rfl (by kernel_rfl) ?_
              refine WH_loadA _ Hvac.isAgg25 Hvac.sizeOf25 rfl (Hb.h (by repeat (first | assumption | exact Hb.newY _ _ | refine Hb.alloc ?_ | refine Hb.drew ?_ | refine Hb.ext (by assumption) ?_ | exact Hb.setSameL (by first | omega | (simp only [size_alloc, size_setB, size_drew]; omega)) | exact Hb.setSame (by assumption) | refine Hb.set (by first | omega | (simp only [size_alloc, size_setB, size_drew]; omega)) ?_ ))) (by first | omega | assumption | rfl | decide | exact Nat.le_refl _ | (simp only [size_ic, Value.cells]; omega) | (simp [encWs]; done) | (simp; omega) | simp | exact encYA_sz (by assumption) | exact encYT_sz (by assumption) | exact encYM_sz (by assumption)) (Xt.h (by first | assumption | exact Xt.whole rfl rfl | exact Xt.whole rfl (by assumption) | exact Xt.whole rfl (by simp only [size_ic, Value.cells]; omega) | exact ⟨rfl⟩)) ?_
              refine WH_nil ?_
              refine F_q (i := 6) rfl (by kernel_rfl) ?_
              refine WH_p (PS_move_ptr rfl) rfl ?_
              refine WH_nil ?_
              refine F_q (i := 7) rfl (by kernel_rfl) ?_
              refine WH_p (PS_move_ptr rfl) rfl ?_
              refine WH_nil ?_
              refine F_q (i := 8) rfl (by kernel_rfl) ?_
              refine WH_call Hvac.call47 (by rfl) (Ret.mono (yArg_spec _ (OmB.ext hO (by repeat (first | assumption | exact Ext.refl _ | refine Ext.alloc ?_ _ | refine Ext.drew ?_ | refine Ext.setB ?_ (by first | omega | (simp only [size_alloc, size_setB, size_drew]; omega)) _ | exact Ext.trans (by assumption) (by assumption) | refine Ext.trans ?_ (by assumption)))) _ _ _ _ (by first | assumption | exact FrS.ext (by assumption) (by repeat (first | assumption | exact Ext.refl _ | refine Ext.alloc ?_ _ | refine Ext.drew ?_ | refine Ext.setB ?_ (by first | omega | (simp only [size_alloc, size_setB, size_drew]; omega)) _ | exact Ext.trans (by assumption) (by assumption) | refine Ext.trans ?_ (by assumption)))) hP _ (by decide)) ?_)
              rintro _ w47_28 ⟨hE47_28, s47_28, rfl, hN47_28, hs47_28⟩
              refine ⟨fun _ => (by repeat (first | assumption | exact Ext.refl _ | refine Ext.alloc ?_ _ | refine Ext.drew ?_ | refine Ext.setB ?_ (by first | omega | (simp only [size_alloc, size_setB, size_drew]; omega)) _ | exact Ext.trans (by assumption) (by assumption) | refine Ext.trans ?_ (by assumption))), ?_⟩
              have hz47_28 := hE47_28.1
              try simp only [size_alloc, size_setB, size_drew] at hz47_28
              refine WH_nil ?_
              refine F_q (i := 9) rfl (by kernel_rfl) ?_
              refine WH_p (PS_move_ptr rfl) rfl ?_
              refine WH_nil ?_
              refine F_q (i := 10) rfl (by kernel_rfl) ?_
              refine WH_call Hvac.call47 (by rfl) (Ret.mono (yArg_spec _ (OmB.ext hO (by repeat (first | assumption | exact Ext.refl _ | refine Ext.alloc ?_ _ | refine Ext.drew ?_ | refine Ext.setB ?_ (by first | omega | (simp only [size_alloc, size_setB, size_drew]; omega)) _ | exact Ext.trans (by assumption) (by assumption) | refine Ext.trans ?_ (by assumption)))) _ _ _ _ (by first | assumption | exact FrS.ext (by assumption) (by repeat (first | assumption | exact Ext.refl _ | refine Ext.alloc ?_ _ | refine Ext.drew ?_ | refine Ext.setB ?_ (by first | omega | (simp only [size_alloc, size_setB, size_drew]; omega)) _ | exact Ext.trans (by assumption) (by assumption) | refine Ext.trans ?_ (by assumption)))) hP _ (by decide)) ?_)
              rintro _ w47_29 ⟨hE47_29, s47_29, rfl, hN47_29, hs47_29⟩
              refine ⟨fun _ => (by repeat (first | assumption | exact Ext.refl _ | refine Ext.alloc ?_ _ | refine Ext.drew ?_ | refine Ext.setB ?_ (by first | omega | (simp only [size_alloc, size_setB, size_drew]; omega)) _ | exact Ext.trans (by assumption) (by assumption) | refine Ext.trans ?_ (by assumption))), ?_⟩
              have hz47_29 := hE47_29.1
              try simp only [size_alloc, size_setB, size_drew] at hz47_29
              refine WH_nil ?_
              refine F_q (i := 11) rfl (by kernel_rfl) ?_
              refine WH_call Hvac.call46 (by rfl) (Ret.mono (yRead_spec _ (OmB.ext hO (by repeat (first | assumption | exact Ext.refl _ | refine Ext.alloc ?_ _ | refine Ext.drew ?_ | refine Ext.setB ?_ (by first | omega | (simp only [size_alloc, size_setB, size_drew]; omega)) _ | exact Ext.trans (by assumption) (by assumption) | refine Ext.trans ?_ (by assumption)))) _ _ _ _ (by first | assumption | exact FrS.ext (by assumption) (by repeat (first | assumption | exact Ext.refl _ | refine Ext.alloc ?_ _ | refine Ext.drew ?_ | refine Ext.setB ?_ (by first | omega | (simp only [size_alloc, size_setB, size_drew]; omega)) _ | exact Ext.trans (by assumption) (by assumption) | refine Ext.trans ?_ (by assumption)))) hP _ _ _ _ (by first | exact NN.nil _ | assumption | exact NN.ext (by assumption) (by repeat (first | assumption | exact Ext.refl _ | refine Ext.alloc ?_ _ | refine Ext.drew ?_ | refine Ext.setB ?_ (by first | omega | (simp only [size_alloc, size_setB, size_drew]; omega)) _ | exact Ext.trans (by assumption) (by assumption) | refine Ext.trans ?_ (by assumption)))) (by first | assumption | omega | (rw [sz_zero]; omega)) _ _ _ _ (by first | exact NN.nil _ | assumption | exact NN.ext (by assumption) (by repeat (first | assumption | exact Ext.refl _ | refine Ext.alloc ?_ _ | refine Ext.drew ?_ | refine Ext.setB ?_ (by first | omega | (simp only [size_alloc, size_setB, size_drew]; omega)) _ | exact Ext.trans (by assumption) (by assumption) | refine Ext.trans ?_ (by assumption)))) (by first | assumption | omega | (rw [sz_zero]; omega)) (by show yarg f 2 ≤ 100000000; omega)) ?_)
              rintro _ w46_30 ⟨hE46_30, s63, rfl, hN63⟩
              refine ⟨fun _ => (by repeat (first | assumption | exact Ext.refl _ | refine Ext.alloc ?_ _ | refine Ext.drew ?_ | refine Ext.setB ?_ (by first | omega | (simp only [size_alloc, size_setB, size_drew]; omega)) _ | exact Ext.trans (by assumption) (by assumption) | refine Ext.trans ?_ (by assumption))), ?_⟩
              have hz46_30 := hE46_30.1
              try simp only [size_alloc, size_setB, size_drew] at hz46_30
              replace hN63 : PB w46_30 s63 (ycode f) := hN63
              have hl63 := PB.len hN63
              rw [hcdl] at hl63
              refine WH_nil ?_
              refine F_q (i := 12) rfl (by kernel_rfl) ?_
              refine WH_p (PS_b121_0_5_13_10 (k := 5) rfl rfl rfl hsbl rfl) rfl ?_
              rw [show ((s53.1, s53.2.1, s53.2.2) : SV) = s53 from rfl, show ((s63.1, s63.2.1, s63.2.2) : SV) = s63 from rfl]
              have hszk := encYF_sz (x := kYF 5 false (none, 0, 0) s53 s63 (List.replicate 20 0) f.self) hrep hsbl
              have honek := one_YF (kYF 5 false (none, 0, 0) s53 s63 (List.replicate 20 0) f.self)
              refine WH_nil ?_
              refine F_q (i := 14) rfl (by kernel_rfl) ?_
              first | refine WH_storeW Hvac.sizeOf121 rfl (v := .agg _) rfl (Hb.h (by repeat (first | assumption | exact Hb.newY _ _ | refine Hb.alloc ?_ | refine Hb.drew ?_ | refine Hb.ext (by assumption) ?_ | exact Hb.setSameL (by first | omega | (simp only [size_alloc, size_setB, size_drew]; omega)) | exact Hb.setSame (by assumption) | refine Hb.set (by first | omega | (simp only [size_alloc, size_setB, size_drew]; omega)) ?_ ))) rfl (by first | omega | assumption | rfl | decide | exact Nat.le_refl _ | (simp only [size_ic, Value.cells]; omega) | (simp [encWs]; done) | (simp; omega) | simp | exact encYA_sz (by assumption) | exact encYT_sz (by assumption) | exact encYM_sz (by assumption)) (by first | omega | assumption | rfl | decide | exact Nat.le_refl _ | (simp only [size_ic, Value.cells]; omega) | (simp [encWs]; done) | (simp; omega) | simp | exact encYA_sz (by assumption) | exact encYT_sz (by assumption) | exact encYM_sz (by assumption)) (by first | exact oneCell_ic | assumption | exact one_Ws2 _ | exact one_YA2 _ | exact one_YSl2 _ | exact one_YM2 _ | exact one_YT2 _ | exact one_L2 _) (fun h => by cases h) ?_ | refine WH_store Hvac.sizeOf121 rfl (v := .agg _) rfl (Hb.h (by repeat (first | assumption | exact Hb.newY _ _ | refine Hb.alloc ?_ | refine Hb.drew ?_ | refine Hb.ext (by assumption) ?_ | exact Hb.setSameL (by first | omega | (simp only [size_alloc, size_setB, size_drew]; omega)) | exact Hb.setSame (by assumption) | refine Hb.set (by first | omega | (simp only [size_alloc, size_setB, size_drew]; omega)) ?_ ))) (by first | omega | assumption | rfl | decide | exact Nat.le_refl _ | (simp only [size_ic, Value.cells]; omega) | (simp [encWs]; done) | (simp; omega) | simp | exact encYA_sz (by assumption) | exact encYT_sz (by assumption) | exact encYM_sz (by assumption)) (by first | omega | assumption | rfl | decide | exact Nat.le_refl _ | (simp only [size_ic, Value.cells]; omega) | (simp [encWs]; done) | (simp; omega) | simp | exact encYA_sz (by assumption) | exact encYT_sz (by assumption) | exact encYM_sz (by assumption)) (by first | exact oneCell_ic | assumption | exact one_Ws2 _ | exact one_YA2 _ | exact one_YSl2 _ | exact one_YM2 _ | exact one_YT2 _ | exact one_L2 _) (fun h => by cases h) ?_
              refine WH_nil ?_
              refine F_end ?_
              refine thn_normal ?_
              exact ⟨b11, s53, s63, ⟨rfl, rfl, rfl, rfl, rfl, rfl, rfl, trivial⟩, (by repeat (first | assumption | exact Ext.refl _ | refine Ext.alloc ?_ _ | refine Ext.drew ?_ | refine Ext.setB ?_ (by first | omega | (simp only [size_alloc, size_setB, size_drew]; omega)) _ | refine Ext.trans ?_ (by assumption))), by omega, by omega, Hb.mk (Hb.h (by repeat (first | assumption | exact Hb.newY _ _ | refine Hb.alloc ?_ | refine Hb.drew ?_ | refine Hb.ext (by assumption) ?_ | exact Hb.setSameL (by first | omega | (simp only [size_alloc, size_setB, size_drew]; omega)) | exact Hb.setSame (by assumption) | refine Hb.set (by first | omega | (simp only [size_alloc, size_setB, size_drew]; omega)) ?_ ))), Hb.mk (Hb.h (by repeat (first | assumption | exact Hb.newY _ _ | refine Hb.alloc ?_ | refine Hb.drew ?_ | refine Hb.ext (by assumption) ?_ | exact Hb.setSameL (by first | omega | (simp only [size_alloc, size_setB, size_drew]; omega)) | exact Hb.setSame (by assumption) | refine Hb.set (by first | omega | (simp only [size_alloc, size_setB, size_drew]; omega)) ?_ ))), NN.b121 (NN.ext hN53 (by repeat (first | assumption | exact Ext.refl _ | refine Ext.alloc ?_ _ | refine Ext.drew ?_ | refine Ext.setB ?_ (by first | omega | (simp only [size_alloc, size_setB, size_drew]; omega)) _ | refine Ext.trans ?_ (by assumption)))) (Hb.mk (Hb.h (by repeat (first | assumption | exact Hb.newY _ _ | refine Hb.alloc ?_ | refine Hb.drew ?_ | refine Hb.ext (by assumption) ?_ | exact Hb.setSameL (by first | omega | (simp only [size_alloc, size_setB, size_drew]; omega)) | exact Hb.setSame (by assumption) | refine Hb.set (by first | omega | (simp only [size_alloc, size_setB, size_drew]; omega)) ?_ )))), PB.b121 (PB.ext hN63 (by repeat (first | assumption | exact Ext.refl _ | refine Ext.alloc ?_ _ | refine Ext.drew ?_ | refine Ext.setB ?_ (by first | omega | (simp only [size_alloc, size_setB, size_drew]; omega)) _ | refine Ext.trans ?_ (by assumption)))) (Hb.mk (Hb.h (by repeat (first | assumption | exact Hb.newY _ _ | refine Hb.alloc ?_ | refine Hb.drew ?_ | refine Hb.ext (by assumption) ?_ | exact Hb.setSameL (by first | omega | (simp only [size_alloc, size_setB, size_drew]; omega)) | exact Hb.setSame (by assumption) | refine Hb.set (by first | omega | (simp only [size_alloc, size_setB, size_drew]; omega)) ?_ )))), NN.b121 (NN.ext hnc10 (by repeat (first | assumption | exact Ext.refl _ | refine Ext.alloc ?_ _ | refine Ext.drew ?_ | refine Ext.setB ?_ (by first | omega | (simp only [size_alloc, size_setB, size_drew]; omega)) _ | refine Ext.trans ?_ (by assumption)))) (Hb.mk (Hb.h (by repeat (first | assumption | exact Hb.newY _ _ | refine Hb.alloc ?_ | refine Hb.drew ?_ | refine Hb.ext (by assumption) ?_ | exact Hb.setSameL (by first | omega | (simp only [size_alloc, size_setB, size_drew]; omega)) | exact Hb.setSame (by assumption) | refine Hb.set (by first | omega | (simp only [size_alloc, size_setB, size_drew]; omega)) ?_ ))))⟩
          · rintro ρ6 w6 ⟨b11, s53, s63, hFr6, hE6, hg11, hne11, hb106, hb116, hN536, hN636, hncc6⟩
            refine W_env _ hFr6 ?_
            have hz6 := hE6.1
            have hb10l6 := hb106.lt
            have hb11l6 := hb116.lt
            have hl63 := PB.len hN636
            rw [hcdl] at hl63
            have hnz8 : sz (yacct y.now.accts f.self).nonce ≤ 8 := sz_le (by omega)
            have hszk := encYF_sz (x := kYF 5 false (none, 0, 0) s53 s63 (List.replicate 20 0) f.self) hrep hsbl
            have hne11F : b11 ≠ F := by omega
            have hneY : ∀ F' o', x.frames.1 = some ⟨F', o', none⟩ → b11 ≠ F' := fun F' o' h9 => by rw [hFp] at h9; injection h9 with h9; injection h9 with h9 _; rw [← h9]; exact hne11F
            refine W_seq ?_
            refine W_drawE [false, false, false, false, false, false, false, false, false] hmix (by kernel_rfl) rfl ?_
            refine WH_p (PS_move_ptr rfl) rfl ?_
            refine WH_p (PS_nilCheck rfl) rfl ?_
            refine WH_p (PS_fieldAddr 12 Hvac.runUnderlying121 rfl Hvac.sizeOf25 rfl rfl) rfl ?_
            refine WH_loadA _ Hvac.isAgg25 Hvac.sizeOf25 rfl (Hb.h (by repeat (first | assumption | exact Hb.newY _ _ | refine Hb.alloc ?_ | refine Hb.drew ?_ | refine Hb.ext (by assumption) ?_ | exact Hb.setSameL (by first | omega | (simp only [size_alloc, size_setB, size_drew]; omega)) | exact Hb.setSame (by assumption) | refine Hb.set (by first | omega | (simp only [size_alloc, size_setB, size_drew]; omega)) ?_ ))) (by first | omega | assumption | rfl | decide | exact Nat.le_refl _ | (simp only [size_ic, Value.cells]; omega) | (simp [encWs]; done) | (simp; omega) | simp | exact encYA_sz (by assumption) | exact encYT_sz (by assumption) | exact encYM_sz (by assumption)) (Xt.h (by first | assumption | exact Xt.whole rfl rfl | exact Xt.whole rfl (by assumption) | exact Xt.whole rfl (by simp only [size_ic, Value.cells]; omega) | exact ⟨rfl⟩)) ?_
            refine WH_p (PS_fieldAddr 20 Hvac.runUnderlying104 rfl Hvac.sizeOf92 rfl rfl) rfl ?_
            refine WH_load (.slice _ _ _) Hvac.isAgg92 rfl (Hb.h (by repeat (first | assumption | exact Hb.newY _ _ | refine Hb.alloc ?_ | refine Hb.drew ?_ | refine Hb.ext (by assumption) ?_ | exact Hb.setSameL (by first | omega | (simp only [size_alloc, size_setB, size_drew]; omega)) | exact Hb.setSame (by assumption) | refine Hb.set (by first | omega | (simp only [size_alloc, size_setB, size_drew]; omega)) ?_ ))) (Ce.h (by first | assumption | exact ⟨rfl⟩)) ?_
            refine WH_call Hvac.call18 (by rfl) (Ret.mono (yCreate1_spec _ (OmB.ext hO (by repeat (first | assumption | exact Ext.refl _ | refine Ext.alloc ?_ _ | refine Ext.drew ?_ | refine Ext.setB ?_ (by first | omega | (simp only [size_alloc, size_setB, size_drew]; omega)) _ | exact Ext.trans (by assumption) (by assumption) | refine Ext.trans ?_ (by assumption)))) ks hK _ hFR.sb _ _ _ _ (by first | exact NN.nil _ | assumption | exact NN.ext (by assumption) (by repeat (first | assumption | exact Ext.refl _ | refine Ext.alloc ?_ _ | refine Ext.drew ?_ | refine Ext.setB ?_ (by first | omega | (simp only [size_alloc, size_setB, size_drew]; omega)) _ | exact Ext.trans (by assumption) (by assumption) | refine Ext.trans ?_ (by assumption)))) (by first | assumption | omega | (rw [sz_zero]; omega))) ?_)
            rintro _ w18_31 ⟨hE18_31, rfl⟩
            refine ⟨(fun h => by cases h), ?_⟩
            have hz18_31 := hE18_31.1
            try simp only [size_alloc, size_setB, size_drew] at hz18_31
            refine WH_p (PS_fieldAddr 12 Hvac.runUnderlying121 rfl Hvac.sizeOf25 rfl rfl) rfl ?_
            refine WH_store Hvac.sizeOf25 rfl (v := .agg (ic .u8 (ycr1 ks f.self (yacct y.now.accts f.self).nonce))) rfl (Hb.h (by repeat (first | assumption | exact Hb.newY _ _ | refine Hb.alloc ?_ | refine Hb.drew ?_ | refine Hb.ext (by assumption) ?_ | exact Hb.setSameL (by first | omega | (simp only [size_alloc, size_setB, size_drew]; omega)) | exact Hb.setSame (by assumption) | refine Hb.set (by first | omega | (simp only [size_alloc, size_setB, size_drew]; omega)) ?_ ))) (by show (ic .u8 (ycr1 ks f.self (yacct y.now.accts f.self).nonce)).size = 20; rw [size_ic]; assumption) (by first | omega | (simp only [Value.cells]; omega) | (rw [kYF_sz (by assumption) (by assumption)]; omega)) (by intro u hu; exact oneCell_ic u hu) (fun h => by cases h) ?_
            try rw [show ∀ a, (Value.agg a).cells = a from fun _ => rfl]
            rw [kYF_A hrep hA1]
            try rw [setB_setB]
            refine WH_nil ?_
            refine thn_normal ?_
            refine W_seqJ (fun ρ w' => Fr [(0, .pointer (some ⟨C, 0, none⟩)), (1, .pointer (some ⟨F, rest.length * 60, none⟩)), (6, .int .i64 (tk : Int)), (10, .pointer (some ⟨b10, 0, none⟩)), (11, .pointer (some ⟨b11, 0, none⟩))] ρ ∧ Ext w w' ∧ Hb w' b10 (.cells (encYA x10).toArray 104 (0, 0)) ∧ Hb w' b11 (.cells (encYF (kYF (ycrk o) false (none, 0, 0) s53 s63 (ycrA ks y f o) f.self)).toArray 121 (0, 0)) ∧ NN w' s53 (yarg f 0) ∧ PB w' s63 (ycode f) ∧ NN w' x10.nonce (yacct y.now.accts f.self).nonce) ?_ ?_
            · skip
              refine W_seq ?_
              refine W_gen fun w7 hw7 => ?_
              have hE7 : Ext w w7 := by rw [hw7]; exact (by repeat (first | assumption | exact Ext.refl _ | refine Ext.alloc ?_ _ | refine Ext.drew ?_ | refine Ext.setB ?_ (by first | omega | (simp only [size_alloc, size_setB, size_drew]; omega)) _ | refine Ext.trans ?_ (by assumption)))
              have hb107 : Hb w7 b10 (.cells (encYA x10).toArray 104 (0, 0)) := by rw [hw7]; exact Hb.mk (Hb.h (by repeat (first | assumption | exact Hb.newY _ _ | refine Hb.alloc ?_ | refine Hb.drew ?_ | refine Hb.ext (by assumption) ?_ | exact Hb.setSameL (by first | omega | (simp only [size_alloc, size_setB, size_drew]; omega)) | exact Hb.setSame (by assumption) | refine Hb.set (by first | omega | (simp only [size_alloc, size_setB, size_drew]; omega)) ?_ )))
              have hb117 : Hb w7 b11 (.cells (encYF (kYF 5 false (none, 0, 0) s53 s63 (ycr1 ks f.self (yacct y.now.accts f.self).nonce) f.self)).toArray 121 (0, 0)) := by rw [hw7]; exact Hb.mk (Hb.h (by repeat (first | assumption | exact Hb.newY _ _ | refine Hb.alloc ?_ | refine Hb.drew ?_ | refine Hb.ext (by assumption) ?_ | exact Hb.setSameL (by first | omega | (simp only [size_alloc, size_setB, size_drew]; omega)) | exact Hb.setSame (by assumption) | refine Hb.set (by first | omega | (simp only [size_alloc, size_setB, size_drew]; omega)) ?_ )))
              have hN537 : NN w7 s53 (yarg f 0) := by rw [hw7]; exact NN.b121 (NN.ext hN536 (by repeat (first | assumption | exact Ext.refl _ | refine Ext.alloc ?_ _ | refine Ext.drew ?_ | refine Ext.setB ?_ (by first | omega | (simp only [size_alloc, size_setB, size_drew]; omega)) _ | refine Ext.trans ?_ (by assumption)))) (Hb.mk (Hb.h (by repeat (first | assumption | exact Hb.newY _ _ | refine Hb.alloc ?_ | refine Hb.drew ?_ | refine Hb.ext (by assumption) ?_ | exact Hb.setSameL (by first | omega | (simp only [size_alloc, size_setB, size_drew]; omega)) | exact Hb.setSame (by assumption) | refine Hb.set (by first | omega | (simp only [size_alloc, size_setB, size_drew]; omega)) ?_ ))))
              have hN637 : PB w7 s63 (ycode f) := by rw [hw7]; exact PB.b121 (PB.ext hN636 (by repeat (first | assumption | exact Ext.refl _ | refine Ext.alloc ?_ _ | refine Ext.drew ?_ | refine Ext.setB ?_ (by first | omega | (simp only [size_alloc, size_setB, size_drew]; omega)) _ | refine Ext.trans ?_ (by assumption)))) (Hb.mk (Hb.h (by repeat (first | assumption | exact Hb.newY _ _ | refine Hb.alloc ?_ | refine Hb.drew ?_ | refine Hb.ext (by assumption) ?_ | exact Hb.setSameL (by first | omega | (simp only [size_alloc, size_setB, size_drew]; omega)) | exact Hb.setSame (by assumption) | refine Hb.set (by first | omega | (simp only [size_alloc, size_setB, size_drew]; omega)) ?_ ))))
              have hncc7 : NN w7 x10.nonce (yacct y.now.accts f.self).nonce := by rw [hw7]; exact NN.b121 (NN.ext hncc6 (by repeat (first | assumption | exact Ext.refl _ | refine Ext.alloc ?_ _ | refine Ext.drew ?_ | refine Ext.setB ?_ (by first | omega | (simp only [size_alloc, size_setB, size_drew]; omega)) _ | refine Ext.trans ?_ (by assumption)))) (Hb.mk (Hb.h (by repeat (first | assumption | exact Hb.newY _ _ | refine Hb.alloc ?_ | refine Hb.drew ?_ | refine Hb.ext (by assumption) ?_ | exact Hb.setSameL (by first | omega | (simp only [size_alloc, size_setB, size_drew]; omega)) | exact Hb.setSame (by assumption) | refine Hb.set (by first | omega | (simp only [size_alloc, size_setB, size_drew]; omega)) ?_ ))))
              clear hw7
              have hz7 := hE7.1
              have hb10l7 := hb107.lt
              have hb11l7 := hb117.lt
              refine W_region rfl ?_
              refine WO_p (PS_move_int rfl) ?_
              refine WO_p (PS_eql rfl rfl) ?_
              refine WO_nil ?_
              refine thn_normal ?_
              refine W_if rfl (fun hb34 => ?_) (fun hb34 => ?_)
              · have hb34p := hb34.h; try simp only [al_ete, al_dfn, Bool.not_eq_true', Bool.not_eq_false', al_ne, Bool.not_not, al_nn] at hb34p
                have ho5 : o = 245 := by omega
                refine W_seq ?_
                refine W_region rfl ?_
                refine WO_p (PS_fieldAddr 0 Hvac.runUnderlying121 rfl Hvac.sizeOf5 rfl rfl) ?_
                refine WO_store1 Hvac.sizeOf5 rfl (v := .int _ _) rfl (Hb.h (by repeat (first | assumption | exact Hb.newY _ _ | refine Hb.alloc ?_ | refine Hb.drew ?_ | refine Hb.ext (by assumption) ?_ | exact Hb.setSameL (by first | omega | (simp only [size_alloc, size_setB, size_drew]; omega)) | exact Hb.setSame (by assumption) | refine Hb.set (by first | omega | (simp only [size_alloc, size_setB, size_drew]; omega)) ?_ ))) rfl (by first | omega | (simp only [Value.cells]; omega) | (rw [kYF_sz (by assumption) (by assumption)]; omega)) rfl ?_
                try rw [show ∀ a, (Value.agg a).cells = a from fun _ => rfl]
                rw [kYF_k 6 6 rfl]
                try rw [setB_setB]
                refine WO_nil ?_
                refine thn_normal ?_
                refine W_gen fun w9 hw9 => ?_
                have hE9 : Ext w w9 := by rw [hw9]; exact (by repeat (first | assumption | exact Ext.refl _ | refine Ext.alloc ?_ _ | refine Ext.drew ?_ | refine Ext.setB ?_ (by first | omega | (simp only [size_alloc, size_setB, size_drew]; omega)) _ | refine Ext.trans ?_ (by assumption)))
                have hb109 : Hb w9 b10 (.cells (encYA x10).toArray 104 (0, 0)) := by rw [hw9]; exact Hb.mk (Hb.h (by repeat (first | assumption | exact Hb.newY _ _ | refine Hb.alloc ?_ | refine Hb.drew ?_ | refine Hb.ext (by assumption) ?_ | exact Hb.setSameL (by first | omega | (simp only [size_alloc, size_setB, size_drew]; omega)) | exact Hb.setSame (by assumption) | refine Hb.set (by first | omega | (simp only [size_alloc, size_setB, size_drew]; omega)) ?_ )))
                have hb119 : Hb w9 b11 (.cells (encYF (kYF 6 false (none, 0, 0) s53 s63 (ycr1 ks f.self (yacct y.now.accts f.self).nonce) f.self)).toArray 121 (0, 0)) := by rw [hw9]; exact Hb.mk (Hb.h (by repeat (first | assumption | exact Hb.newY _ _ | refine Hb.alloc ?_ | refine Hb.drew ?_ | refine Hb.ext (by assumption) ?_ | exact Hb.setSameL (by first | omega | (simp only [size_alloc, size_setB, size_drew]; omega)) | exact Hb.setSame (by assumption) | refine Hb.set (by first | omega | (simp only [size_alloc, size_setB, size_drew]; omega)) ?_ )))
                have hN539 : NN w9 s53 (yarg f 0) := by rw [hw9]; exact NN.b121 (NN.ext hN537 (by repeat (first | assumption | exact Ext.refl _ | refine Ext.alloc ?_ _ | refine Ext.drew ?_ | refine Ext.setB ?_ (by first | omega | (simp only [size_alloc, size_setB, size_drew]; omega)) _ | refine Ext.trans ?_ (by assumption)))) (Hb.mk (Hb.h (by repeat (first | assumption | exact Hb.newY _ _ | refine Hb.alloc ?_ | refine Hb.drew ?_ | refine Hb.ext (by assumption) ?_ | exact Hb.setSameL (by first | omega | (simp only [size_alloc, size_setB, size_drew]; omega)) | exact Hb.setSame (by assumption) | refine Hb.set (by first | omega | (simp only [size_alloc, size_setB, size_drew]; omega)) ?_ ))))
                have hN639 : PB w9 s63 (ycode f) := by rw [hw9]; exact PB.b121 (PB.ext hN637 (by repeat (first | assumption | exact Ext.refl _ | refine Ext.alloc ?_ _ | refine Ext.drew ?_ | refine Ext.setB ?_ (by first | omega | (simp only [size_alloc, size_setB, size_drew]; omega)) _ | refine Ext.trans ?_ (by assumption)))) (Hb.mk (Hb.h (by repeat (first | assumption | exact Hb.newY _ _ | refine Hb.alloc ?_ | refine Hb.drew ?_ | refine Hb.ext (by assumption) ?_ | exact Hb.setSameL (by first | omega | (simp only [size_alloc, size_setB, size_drew]; omega)) | exact Hb.setSame (by assumption) | refine Hb.set (by first | omega | (simp only [size_alloc, size_setB, size_drew]; omega)) ?_ ))))
                have hncc9 : NN w9 x10.nonce (yacct y.now.accts f.self).nonce := by rw [hw9]; exact NN.b121 (NN.ext hncc7 (by repeat (first | assumption | exact Ext.refl _ | refine Ext.alloc ?_ _ | refine Ext.drew ?_ | refine Ext.setB ?_ (by first | omega | (simp only [size_alloc, size_setB, size_drew]; omega)) _ | refine Ext.trans ?_ (by assumption)))) (Hb.mk (Hb.h (by repeat (first | assumption | exact Hb.newY _ _ | refine Hb.alloc ?_ | refine Hb.drew ?_ | refine Hb.ext (by assumption) ?_ | exact Hb.setSameL (by first | omega | (simp only [size_alloc, size_setB, size_drew]; omega)) | exact Hb.setSame (by assumption) | refine Hb.set (by first | omega | (simp only [size_alloc, size_setB, size_drew]; omega)) ?_ ))))
                clear hw9
                have hz9 := hE9.1
                have hb10l9 := hb109.lt
                have hb11l9 := hb119.lt
                have hk10c : Ce (encYF (kYF 6 false (none, 0, 0) s53 s63 (ycr1 ks f.self (yacct y.now.accts f.self).nonce) f.self)).toArray (0 + 10) (.slice s63.1 s63.2.1 s63.2.2) := ⟨rfl⟩
                refine W_drawE [false, false, false, false, false, true, false, false, false, false, false] hmix (by kernel_rfl) rfl ?_
                refine WH_p (PS_move_ptr rfl) rfl ?_
                refine WH_p (PS_nilCheck rfl) rfl ?_
                refine WH_p (PS_fieldAddr 12 Hvac.runUnderlying121 rfl Hvac.sizeOf25 rfl rfl) rfl ?_
                refine WH_loadA _ Hvac.isAgg25 Hvac.sizeOf25 rfl (Hb.h (by repeat (first | assumption | exact Hb.newY _ _ | refine Hb.alloc ?_ | refine Hb.drew ?_ | refine Hb.ext (by assumption) ?_ | exact Hb.setSameL (by first | omega | (simp only [size_alloc, size_setB, size_drew]; omega)) | exact Hb.setSame (by assumption) | refine Hb.set (by first | omega | (simp only [size_alloc, size_setB, size_drew]; omega)) ?_ ))) (by first | omega | assumption | rfl | decide | exact Nat.le_refl _ | (simp only [size_ic, Value.cells]; omega) | (simp [encWs]; done) | (simp; omega) | simp | exact encYA_sz (by assumption) | exact encYT_sz (by assumption) | exact encYM_sz (by assumption)) (Xt.h (by first | assumption | exact Xt.whole rfl rfl | exact Xt.whole rfl (by assumption) | exact Xt.whole rfl (by simp only [size_ic, Value.cells]; omega) | exact ⟨rfl⟩)) ?_
                refine WH_p (PS_move_ptr rfl) rfl ?_
                refine WH_call Hvac.call47 (by rfl) (Ret.mono (yArg_spec _ (OmB.ext hO (by repeat (first | assumption | exact Ext.refl _ | refine Ext.alloc ?_ _ | refine Ext.drew ?_ | refine Ext.setB ?_ (by first | omega | (simp only [size_alloc, size_setB, size_drew]; omega)) _ | exact Ext.trans (by assumption) (by assumption) | refine Ext.trans ?_ (by assumption)))) _ _ _ _ (by first | assumption | exact FrS.ext (by assumption) (by repeat (first | assumption | exact Ext.refl _ | refine Ext.alloc ?_ _ | refine Ext.drew ?_ | refine Ext.setB ?_ (by first | omega | (simp only [size_alloc, size_setB, size_drew]; omega)) _ | exact Ext.trans (by assumption) (by assumption) | refine Ext.trans ?_ (by assumption)))) hP _ (by decide)) ?_)
                rintro _ w47_34 ⟨hE47_34, s81, rfl, hN81, hs81⟩
                refine ⟨fun _ => (by repeat (first | assumption | exact Ext.refl _ | refine Ext.alloc ?_ _ | refine Ext.drew ?_ | refine Ext.setB ?_ (by first | omega | (simp only [size_alloc, size_setB, size_drew]; omega)) _ | exact Ext.trans (by assumption) (by assumption) | refine Ext.trans ?_ (by assumption))), ?_⟩
                have hz47_34 := hE47_34.1
                try simp only [size_alloc, size_setB, size_drew] at hz47_34
                refine WH_p (PS_fieldAddr 10 Hvac.runUnderlying121 rfl Hvac.sizeOf32 rfl rfl) rfl ?_
                refine WH_load (.slice _ _ _) Hvac.isAgg32 rfl (Hb.h (by repeat (first | assumption | exact Hb.newY _ _ | refine Hb.alloc ?_ | refine Hb.drew ?_ | refine Hb.ext (by assumption) ?_ | exact Hb.setSameL (by first | omega | (simp only [size_alloc, size_setB, size_drew]; omega)) | exact Hb.setSame (by assumption) | refine Hb.set (by first | omega | (simp only [size_alloc, size_setB, size_drew]; omega)) ?_ ))) (Ce.h (by first | assumption | exact ⟨rfl⟩)) ?_
                refine WH_call Hvac.call199 (by rfl) (Ret.mono (yCreate2_spec _ (OmB.ext hO (by repeat (first | assumption | exact Ext.refl _ | refine Ext.alloc ?_ _ | refine Ext.drew ?_ | refine Ext.setB ?_ (by first | omega | (simp only [size_alloc, size_setB, size_drew]; omega)) _ | exact Ext.trans (by assumption) (by assumption) | refine Ext.trans ?_ (by assumption)))) ks hK _ hFR.sb _ _ _ _ (by first | exact NN.nil _ | assumption | exact NN.ext (by assumption) (by repeat (first | assumption | exact Ext.refl _ | refine Ext.alloc ?_ _ | refine Ext.drew ?_ | refine Ext.setB ?_ (by first | omega | (simp only [size_alloc, size_setB, size_drew]; omega)) _ | exact Ext.trans (by assumption) (by assumption) | refine Ext.trans ?_ (by assumption)))) (by first | assumption | omega | (rw [sz_zero]; omega)) _ _ _ _ (by first | assumption | exact AB.ext (by assumption) (by repeat (first | assumption | exact Ext.refl _ | refine Ext.alloc ?_ _ | refine Ext.drew ?_ | refine Ext.setB ?_ (by first | omega | (simp only [size_alloc, size_setB, size_drew]; omega)) _ | exact Ext.trans (by assumption) (by assumption) | refine Ext.trans ?_ (by assumption))) | exact PB.ab (by assumption) | exact PB.ab (PB.ext (by assumption) (by repeat (first | assumption | exact Ext.refl _ | refine Ext.alloc ?_ _ | refine Ext.drew ?_ | refine Ext.setB ?_ (by first | omega | (simp only [size_alloc, size_setB, size_drew]; omega)) _ | exact Ext.trans (by assumption) (by assumption) | refine Ext.trans ?_ (by assumption))))) (by omega)) ?_)
                rintro _ w199_35 ⟨hE199_35, rfl⟩
                refine ⟨(fun h => by cases h), ?_⟩
                have hz199_35 := hE199_35.1
                try simp only [size_alloc, size_setB, size_drew] at hz199_35
                refine WH_p (PS_fieldAddr 12 Hvac.runUnderlying121 rfl Hvac.sizeOf25 rfl rfl) rfl ?_
                refine WH_store Hvac.sizeOf25 rfl (v := .agg (ic .u8 (ycr2 ks f.self (yarg f 3) (ycode f)))) rfl (Hb.h (by repeat (first | assumption | exact Hb.newY _ _ | refine Hb.alloc ?_ | refine Hb.drew ?_ | refine Hb.ext (by assumption) ?_ | exact Hb.setSameL (by first | omega | (simp only [size_alloc, size_setB, size_drew]; omega)) | exact Hb.setSame (by assumption) | refine Hb.set (by first | omega | (simp only [size_alloc, size_setB, size_drew]; omega)) ?_ ))) (by show (ic .u8 (ycr2 ks f.self (yarg f 3) (ycode f))).size = 20; rw [size_ic]; assumption) (by first | omega | (simp only [Value.cells]; omega) | (rw [kYF_sz (by assumption) (by assumption)]; omega)) (by intro u hu; exact oneCell_ic u hu) (fun h => by cases h) ?_
                try rw [show ∀ a, (Value.agg a).cells = a from fun _ => rfl]
                rw [kYF_A hA1 hA2]
                try rw [setB_setB]
                refine WH_nil ?_
                refine thn_normal ?_
                have eA : ycrA ks y f o = (ycr2 ks f.self (yarg f 3) (ycode f)) := (by unfold ycrA; rw [if_pos (by omega)]); have eK : ycrk o = 6 := (by unfold ycrk; rw [if_pos (by omega)]); rw [eA, eK]; exact ⟨⟨rfl, rfl, rfl, rfl, rfl, trivial⟩, (by repeat (first | assumption | exact Ext.refl _ | refine Ext.alloc ?_ _ | refine Ext.drew ?_ | refine Ext.setB ?_ (by first | omega | (simp only [size_alloc, size_setB, size_drew]; omega)) _ | refine Ext.trans ?_ (by assumption))), Hb.mk (Hb.h (by repeat (first | assumption | exact Hb.newY _ _ | refine Hb.alloc ?_ | refine Hb.drew ?_ | refine Hb.ext (by assumption) ?_ | exact Hb.setSameL (by first | omega | (simp only [size_alloc, size_setB, size_drew]; omega)) | exact Hb.setSame (by assumption) | refine Hb.set (by first | omega | (simp only [size_alloc, size_setB, size_drew]; omega)) ?_ ))), Hb.mk (Hb.h (by repeat (first | assumption | exact Hb.newY _ _ | refine Hb.alloc ?_ | refine Hb.drew ?_ | refine Hb.ext (by assumption) ?_ | exact Hb.setSameL (by first | omega | (simp only [size_alloc, size_setB, size_drew]; omega)) | exact Hb.setSame (by assumption) | refine Hb.set (by first | omega | (simp only [size_alloc, size_setB, size_drew]; omega)) ?_ ))), NN.b121 (NN.ext hN539 (by repeat (first | assumption | exact Ext.refl _ | refine Ext.alloc ?_ _ | refine Ext.drew ?_ | refine Ext.setB ?_ (by first | omega | (simp only [size_alloc, size_setB, size_drew]; omega)) _ | refine Ext.trans ?_ (by assumption)))) (Hb.mk (Hb.h (by repeat (first | assumption | exact Hb.newY _ _ | refine Hb.alloc ?_ | refine Hb.drew ?_ | refine Hb.ext (by assumption) ?_ | exact Hb.setSameL (by first | omega | (simp only [size_alloc, size_setB, size_drew]; omega)) | exact Hb.setSame (by assumption) | refine Hb.set (by first | omega | (simp only [size_alloc, size_setB, size_drew]; omega)) ?_ )))), PB.b121 (PB.ext hN639 (by repeat (first | assumption | exact Ext.refl _ | refine Ext.alloc ?_ _ | refine Ext.drew ?_ | refine Ext.setB ?_ (by first | omega | (simp only [size_alloc, size_setB, size_drew]; omega)) _ | refine Ext.trans ?_ (by assumption)))) (Hb.mk (Hb.h (by repeat (first | assumption | exact Hb.newY _ _ | refine Hb.alloc ?_ | refine Hb.drew ?_ | refine Hb.ext (by assumption) ?_ | exact Hb.setSameL (by first | omega | (simp only [size_alloc, size_setB, size_drew]; omega)) | exact Hb.setSame (by assumption) | refine Hb.set (by first | omega | (simp only [size_alloc, size_setB, size_drew]; omega)) ?_ )))), NN.b121 (NN.ext hncc9 (by repeat (first | assumption | exact Ext.refl _ | refine Ext.alloc ?_ _ | refine Ext.drew ?_ | refine Ext.setB ?_ (by first | omega | (simp only [size_alloc, size_setB, size_drew]; omega)) _ | refine Ext.trans ?_ (by assumption)))) (Hb.mk (Hb.h (by repeat (first | assumption | exact Hb.newY _ _ | refine Hb.alloc ?_ | refine Hb.drew ?_ | refine Hb.ext (by assumption) ?_ | exact Hb.setSameL (by first | omega | (simp only [size_alloc, size_setB, size_drew]; omega)) | exact Hb.setSame (by assumption) | refine Hb.set (by first | omega | (simp only [size_alloc, size_setB, size_drew]; omega)) ?_ ))))⟩
              · have hb34p := hb34.h; try simp only [al_ete, al_dfn, Bool.not_eq_true', Bool.not_eq_false', al_ne, Bool.not_not, al_nn] at hb34p
                have ho5 : o = 240 := by omega
                refine W_skip ?_
                refine thn_normal ?_
                have eA : ycrA ks y f o = (ycr1 ks f.self (yacct y.now.accts f.self).nonce) := (by unfold ycrA; rw [if_neg (by omega)]); have eK : ycrk o = 5 := (by unfold ycrk; rw [if_neg (by omega)]); rw [eA, eK]; exact ⟨⟨rfl, rfl, rfl, rfl, rfl, trivial⟩, (by repeat (first | assumption | exact Ext.refl _ | refine Ext.alloc ?_ _ | refine Ext.drew ?_ | refine Ext.setB ?_ (by first | omega | (simp only [size_alloc, size_setB, size_drew]; omega)) _ | refine Ext.trans ?_ (by assumption))), Hb.mk (Hb.h (by repeat (first | assumption | exact Hb.newY _ _ | refine Hb.alloc ?_ | refine Hb.drew ?_ | refine Hb.ext (by assumption) ?_ | exact Hb.setSameL (by first | omega | (simp only [size_alloc, size_setB, size_drew]; omega)) | exact Hb.setSame (by assumption) | refine Hb.set (by first | omega | (simp only [size_alloc, size_setB, size_drew]; omega)) ?_ ))), Hb.mk (Hb.h (by repeat (first | assumption | exact Hb.newY _ _ | refine Hb.alloc ?_ | refine Hb.drew ?_ | refine Hb.ext (by assumption) ?_ | exact Hb.setSameL (by first | omega | (simp only [size_alloc, size_setB, size_drew]; omega)) | exact Hb.setSame (by assumption) | refine Hb.set (by first | omega | (simp only [size_alloc, size_setB, size_drew]; omega)) ?_ ))), NN.ext hN537 (by repeat (first | assumption | exact Ext.refl _ | refine Ext.alloc ?_ _ | refine Ext.drew ?_ | refine Ext.setB ?_ (by first | omega | (simp only [size_alloc, size_setB, size_drew]; omega)) _ | refine Ext.trans ?_ (by assumption))), PB.ext hN637 (by repeat (first | assumption | exact Ext.refl _ | refine Ext.alloc ?_ _ | refine Ext.drew ?_ | refine Ext.setB ?_ (by first | omega | (simp only [size_alloc, size_setB, size_drew]; omega)) _ | refine Ext.trans ?_ (by assumption))), NN.ext hncc7 (by repeat (first | assumption | exact Ext.refl _ | refine Ext.alloc ?_ _ | refine Ext.drew ?_ | refine Ext.setB ?_ (by first | omega | (simp only [size_alloc, size_setB, size_drew]; omega)) _ | refine Ext.trans ?_ (by assumption)))⟩
            · rintro ρ10 w10 ⟨hFr10, hE10, hb1010, hb1110, hN5310, hN6310, hnc10b⟩
              refine W_env _ hFr10 ?_
              have hz10 := hE10.1
              have hb10l10 := hb1010.lt
              have hb11l10 := hb1110.lt
              refine W_seq ?_
              refine W_drawE [false, false, false, false, false, false, false, false, false, true, true, false] hmix (by kernel_rfl) rfl ?_
              refine WH_p (PS_move_ptr rfl) rfl ?_
              refine WH_p (PS_nilCheck rfl) rfl ?_
              refine WH_p (PS_fieldAddr 0 Hvac.runUnderlying99 rfl Hvac.sizeOf95 rfl rfl) rfl ?_
              refine WH_p (PS_move_ptr rfl) rfl ?_
              refine WH_p (PS_nilCheck rfl) rfl ?_
              refine WH_p (PS_fieldAddr 12 Hvac.runUnderlying121 rfl Hvac.sizeOf25 rfl rfl) rfl ?_
              refine WH_loadA _ Hvac.isAgg25 Hvac.sizeOf25 rfl (Hb.h (by repeat (first | assumption | exact Hb.newY _ _ | refine Hb.alloc ?_ | refine Hb.drew ?_ | refine Hb.ext (by assumption) ?_ | exact Hb.setSameL (by first | omega | (simp only [size_alloc, size_setB, size_drew]; omega)) | exact Hb.setSame (by assumption) | refine Hb.set (by first | omega | (simp only [size_alloc, size_setB, size_drew]; omega)) ?_ ))) (by first | omega | assumption | rfl | decide | exact Nat.le_refl _ | (simp only [size_ic, Value.cells]; omega) | (simp [encWs]; done) | (simp; omega) | simp | exact encYA_sz (by assumption) | exact encYT_sz (by assumption) | exact encYM_sz (by assumption)) (Xt.h (by first | assumption | exact Xt.whole rfl rfl | exact Xt.whole rfl (by assumption) | exact Xt.whole rfl (by simp only [size_ic, Value.cells]; omega) | exact ⟨rfl⟩)) ?_
              refine WH_p (PS_fieldAddr 20 Hvac.runUnderlying104 rfl Hvac.sizeOf92 rfl rfl) rfl ?_
              refine WH_load (.slice _ _ _) Hvac.isAgg92 rfl (Hb.h (by repeat (first | assumption | exact Hb.newY _ _ | refine Hb.alloc ?_ | refine Hb.drew ?_ | refine Hb.ext (by assumption) ?_ | exact Hb.setSameL (by first | omega | (simp only [size_alloc, size_setB, size_drew]; omega)) | exact Hb.setSame (by assumption) | refine Hb.set (by first | omega | (simp only [size_alloc, size_setB, size_drew]; omega)) ?_ ))) (Ce.h (by first | assumption | exact ⟨rfl⟩)) ?_
              refine WH_call Hvac.call19 (by rfl) (Ret.mono (nNum_spec (OmB.ext hO (by repeat (first | assumption | exact Ext.refl _ | refine Ext.alloc ?_ _ | refine Ext.drew ?_ | refine Ext.setB ?_ (by first | omega | (simp only [size_alloc, size_setB, size_drew]; omega)) _ | exact Ext.trans (by assumption) (by assumption) | refine Ext.trans ?_ (by assumption)))) ⟨by omega, by omega⟩) ?_)
              rintro _ w19_36 ⟨hE19_36, s19_36, rfl, hN19_36, hs19_36⟩
              refine ⟨fun _ => (by repeat (first | assumption | exact Ext.refl _ | refine Ext.alloc ?_ _ | refine Ext.drew ?_ | refine Ext.setB ?_ (by first | omega | (simp only [size_alloc, size_setB, size_drew]; omega)) _ | exact Ext.trans (by assumption) (by assumption) | refine Ext.trans ?_ (by assumption))), ?_⟩
              have hz19_36 := hE19_36.1
              try simp only [size_alloc, size_setB, size_drew] at hz19_36
              try simp only [Int.toNat_natCast, toNat_lit] at hN19_36 hs19_36
              try simp only [show Int.toNat 1 = 1 from rfl] at hN19_36 hs19_36
              refine WH_call Hvac.call24 (by rfl) (Ret.mono (nAdd_spec (OmB.ext hO (by repeat (first | assumption | exact Ext.refl _ | refine Ext.alloc ?_ _ | refine Ext.drew ?_ | refine Ext.setB ?_ (by first | omega | (simp only [size_alloc, size_setB, size_drew]; omega)) _ | exact Ext.trans (by assumption) (by assumption) | refine Ext.trans ?_ (by assumption)))) (by first | exact NN.nil _ | assumption | exact NN.ext (by assumption) (by repeat (first | assumption | exact Ext.refl _ | refine Ext.alloc ?_ _ | refine Ext.drew ?_ | refine Ext.setB ?_ (by first | omega | (simp only [size_alloc, size_setB, size_drew]; omega)) _ | exact Ext.trans (by assumption) (by assumption) | refine Ext.trans ?_ (by assumption)))) (by first | exact NN.nil _ | assumption | exact NN.ext (by assumption) (by repeat (first | assumption | exact Ext.refl _ | refine Ext.alloc ?_ _ | refine Ext.drew ?_ | refine Ext.setB ?_ (by first | omega | (simp only [size_alloc, size_setB, size_drew]; omega)) _ | exact Ext.trans (by assumption) (by assumption) | refine Ext.trans ?_ (by assumption)))) (by first | assumption | omega | (rw [sz_zero]; omega)) (by first | assumption | omega | (rw [sz_zero]; omega))) ?_)
              rintro _ w24_37 ⟨hE24_37, s24_37, rfl, hN24_37⟩
              refine ⟨fun _ => (by repeat (first | assumption | exact Ext.refl _ | refine Ext.alloc ?_ _ | refine Ext.drew ?_ | refine Ext.setB ?_ (by first | omega | (simp only [size_alloc, size_setB, size_drew]; omega)) _ | exact Ext.trans (by assumption) (by assumption) | refine Ext.trans ?_ (by assumption))), ?_⟩
              have hz24_37 := hE24_37.1
              try simp only [size_alloc, size_setB, size_drew] at hz24_37
              have hs24_37 := hN24_37.z_add
              refine WH_call Hvac.call23 (by rfl) (Ret.mono (setNonceS (OmB.ext hO (by repeat (first | assumption | exact Ext.refl _ | refine Ext.alloc ?_ _ | refine Ext.drew ?_ | refine Ext.setB ?_ (by first | omega | (simp only [size_alloc, size_setB, size_drew]; omega)) _ | exact Ext.trans (by assumption) (by assumption) | refine Ext.trans ?_ (by assumption)))) (by first | assumption | exact YSS.ext (by assumption) (by repeat (first | assumption | exact Ext.refl _ | refine Ext.alloc ?_ _ | refine Ext.drew ?_ | refine Ext.setB ?_ (by first | omega | (simp only [size_alloc, size_setB, size_drew]; omega)) _ | exact Ext.trans (by assumption) (by assumption) | refine Ext.trans ?_ (by assumption)))) hB (by omega) hFR.sb (by first | exact NN.nil _ | assumption | exact NN.ext (by assumption) (by repeat (first | assumption | exact Ext.refl _ | refine Ext.alloc ?_ _ | refine Ext.drew ?_ | refine Ext.setB ?_ (by first | omega | (simp only [size_alloc, size_setB, size_drew]; omega)) _ | exact Ext.trans (by assumption) (by assumption) | refine Ext.trans ?_ (by assumption)))) (by first | assumption | omega | (rw [sz_zero]; omega))) ?_)
              rintro _ w20 ⟨rfl, s20, hT20⟩
              refine ⟨(fun h => by cases h), ?_⟩
              have hTa20 : SStep w w20 C (xsAccts x s20) (ycre1 y f) := SStep.pre (by repeat (first | assumption | exact Ext.refl _ | refine Ext.alloc ?_ _ | refine Ext.drew ?_ | refine Ext.setB ?_ (by first | omega | (simp only [size_alloc, size_setB, size_drew]; omega)) _ | refine Ext.trans ?_ (by assumption))) hT20
              have hX20 := hX.sstep hTa20 rfl rfl
              have hM20 := hFM.cs hX.ss.blk hX.ss.om hTa20.keep
              have hS20 := hM20.s0
              have hSS20 := hX20.ss
              have hSb20 := hSS20.blk
              have hSl20 := hSb20.lt
              have hFb20 := hM20.blk
              have hFl20 := hFb20.lt
              replace hO := hX20.omb
              have hz20 := hTa20.keep.sz
              have hzs20 := encYS_size (xsAccts x s20)
              have hb1120 : Hb w20 b11 (.cells (encYF (kYF (ycrk o) false (none, 0, 0) s53 s63 (ycrA ks y f o) f.self)).toArray 121 (0, 0)) := Hb.keepO hT20.keep (fun e => absurd e (by omega)) (Hb.mk (Hb.h (by repeat (first | assumption | exact Hb.newY _ _ | refine Hb.alloc ?_ | refine Hb.drew ?_ | refine Hb.ext (by assumption) ?_ | exact Hb.setSameL (by first | omega | (simp only [size_alloc, size_setB, size_drew]; omega)) | exact Hb.setSame (by assumption) | refine Hb.set (by first | omega | (simp only [size_alloc, size_setB, size_drew]; omega)) ?_ ))))
              have hb11l20 := hb1120.lt
              have hN5320 := (NN.ext hN5310 (by repeat (first | assumption | exact Ext.refl _ | refine Ext.alloc ?_ _ | refine Ext.drew ?_ | refine Ext.setB ?_ (by first | omega | (simp only [size_alloc, size_setB, size_drew]; omega)) _ | refine Ext.trans ?_ (by assumption)))).keep hT20.ko
              have hN6320 := (PB.ext hN6310 (by repeat (first | assumption | exact Ext.refl _ | refine Ext.alloc ?_ _ | refine Ext.drew ?_ | refine Ext.setB ?_ (by first | omega | (simp only [size_alloc, size_setB, size_drew]; omega)) _ | refine Ext.trans ?_ (by assumption)))).keep hT20.ko
              have hNg20 := hM20.rel.gas
              have hK20 : KeepO Y w w20 := KeepO.mono hTa20.keep (fun b e => e ▸ hX.yc)
              have hB20 : PSB (N + 1) (ycre1 y f) := hB.setNonce (by omega) f.self ((yacct y.now.accts f.self).nonce + 1)
              have hszA := encYF_sz (x := (kYF (ycrk o) false (none, 0, 0) s53 s63 (ycrA ks y f o) f.self)) hAl hsbl
              
              refine WH_nil ?_
              refine thn_normal ?_
              refine W_seq ?_
              refine W_drawE [false, false, false, false, false, false, false, false, false, false, false] hmix (by kernel_rfl) rfl ?_
              refine WH_p (PS_move_ptr rfl) rfl ?_
              refine WH_p (PS_nilCheck rfl) rfl ?_
              refine WH_p (PS_fieldAddr 4 Hvac.runUnderlying121 rfl Hvac.sizeOf92 rfl rfl) rfl ?_
              refine WH_load (.slice _ _ _) Hvac.isAgg92 rfl (Hb.h (by repeat (first | assumption | exact Hb.newY _ _ | refine Hb.alloc ?_ | refine Hb.drew ?_ | refine Hb.ext (by assumption) ?_ | exact Hb.setSameL (by first | omega | (simp only [size_alloc, size_setB, size_drew]; omega)) | exact Hb.setSame (by assumption) | refine Hb.set (by first | omega | (simp only [size_alloc, size_setB, size_drew]; omega)) ?_ ))) (Ce.h (by first | assumption | exact ⟨rfl⟩)) ?_
              refine WH_p (PS_move_ptr rfl) rfl ?_
              refine WH_p (PS_nilCheck rfl) rfl ?_
              refine WH_p (PS_fieldAddr 4 Hvac.runUnderlying121 rfl Hvac.sizeOf92 rfl rfl) rfl ?_
              refine WH_load (.slice _ _ _) Hvac.isAgg92 rfl (Hb.h (by repeat (first | assumption | exact Hb.newY _ _ | refine Hb.alloc ?_ | refine Hb.drew ?_ | refine Hb.ext (by assumption) ?_ | exact Hb.setSameL (by first | omega | (simp only [size_alloc, size_setB, size_drew]; omega)) | exact Hb.setSame (by assumption) | refine Hb.set (by first | omega | (simp only [size_alloc, size_setB, size_drew]; omega)) ?_ ))) (Ce.h (by first | assumption | exact ⟨rfl⟩)) ?_
              refine WH_call Hvac.call200 (by rfl) (Ret.mono (sentGas_spec2 _ (OmB.ext hO (by repeat (first | assumption | exact Ext.refl _ | refine Ext.alloc ?_ _ | refine Ext.drew ?_ | refine Ext.setB ?_ (by first | omega | (simp only [size_alloc, size_setB, size_drew]; omega)) _ | exact Ext.trans (by assumption) (by assumption) | refine Ext.trans ?_ (by assumption)))) _ _ _ _ (by first | exact NN.nil _ | assumption | exact NN.ext (by assumption) (by repeat (first | assumption | exact Ext.refl _ | refine Ext.alloc ?_ _ | refine Ext.drew ?_ | refine Ext.setB ?_ (by first | omega | (simp only [size_alloc, size_setB, size_drew]; omega)) _ | exact Ext.trans (by assumption) (by assumption) | refine Ext.trans ?_ (by assumption)))) (by first | assumption | omega | (rw [sz_zero]; omega)) _ _ _ _ (by first | exact NN.nil _ | assumption | exact NN.ext (by assumption) (by repeat (first | assumption | exact Ext.refl _ | refine Ext.alloc ?_ _ | refine Ext.drew ?_ | refine Ext.setB ?_ (by first | omega | (simp only [size_alloc, size_setB, size_drew]; omega)) _ | exact Ext.trans (by assumption) (by assumption) | refine Ext.trans ?_ (by assumption)))) (by first | assumption | omega | (rw [sz_zero]; omega))) ?_)
              rintro _ w200_39 ⟨hE200_39, s14, rfl, hN14⟩
              refine ⟨(fun h => by cases h), ?_⟩
              have hz200_39 := hE200_39.1
              try simp only [size_alloc, size_setB, size_drew] at hz200_39
              refine WH_p (PS_fieldAddr 4 Hvac.runUnderlying121 rfl Hvac.sizeOf92 rfl rfl) rfl ?_
              refine WH_store1 Hvac.sizeOf92 rfl (v := .slice _ _ _) rfl (Hb.h (by repeat (first | assumption | exact Hb.newY _ _ | refine Hb.alloc ?_ | refine Hb.drew ?_ | refine Hb.ext (by assumption) ?_ | exact Hb.setSameL (by first | omega | (simp only [size_alloc, size_setB, size_drew]; omega)) | exact Hb.setSame (by assumption) | refine Hb.set (by first | omega | (simp only [size_alloc, size_setB, size_drew]; omega)) ?_ ))) rfl (by first | omega | (simp only [Value.cells]; omega) | (rw [kYF_sz (by assumption) (by assumption)]; omega)) rfl (fun h => by cases h) ?_
              try rw [show ∀ a, (Value.agg a).cells = a from fun _ => rfl]
              rw [kYF_g s14]
              try rw [setB_setB]
              refine WH_nil ?_
              refine thn_normal ?_
              refine W_seq ?_
              refine W_gen fun w21 hw21 => ?_
              have hX21 : YX Y w21 C (xsAccts x s20) (ycre1 y f) xs (rest ++ [f]) := by rw [hw21]; exact (hX20.ext (by repeat (first | assumption | exact Ext.refl _ | refine Ext.alloc ?_ _ | refine Ext.drew ?_ | refine Ext.setB ?_ (by first | omega | (simp only [size_alloc, size_setB, size_drew]; omega)) _ | refine Ext.trans ?_ (by assumption)))).box (Hb.mk (Hb.h (by repeat (first | assumption | exact Hb.newY _ _ | refine Hb.alloc ?_ | refine Hb.drew ?_ | refine Hb.ext (by assumption) ?_ | exact Hb.setSameL (by first | omega | (simp only [size_alloc, size_setB, size_drew]; omega)) | exact Hb.setSame (by assumption) | refine Hb.set (by first | omega | (simp only [size_alloc, size_setB, size_drew]; omega)) ?_ )))) hneY
              have hF21 : FrM w21 F (rest.length * 60) r xf f := by rw [hw21]; exact (hM20.ext (by repeat (first | assumption | exact Ext.refl _ | refine Ext.alloc ?_ _ | refine Ext.drew ?_ | refine Ext.setB ?_ (by first | omega | (simp only [size_alloc, size_setB, size_drew]; omega)) _ | refine Ext.trans ?_ (by assumption)))).box (Hb.mk (Hb.h (by repeat (first | assumption | exact Hb.newY _ _ | refine Hb.alloc ?_ | refine Hb.drew ?_ | refine Hb.ext (by assumption) ?_ | exact Hb.setSameL (by first | omega | (simp only [size_alloc, size_setB, size_drew]; omega)) | exact Hb.setSame (by assumption) | refine Hb.set (by first | omega | (simp only [size_alloc, size_setB, size_drew]; omega)) ?_ )))) hne11F
              have hK21 : KeepO Y w w21 := by rw [hw21]; exact KeepO.setB (hK20.extR (by repeat (first | assumption | exact Ext.refl _ | refine Ext.alloc ?_ _ | refine Ext.drew ?_ | refine Ext.setB ?_ (by first | omega | (simp only [size_alloc, size_setB, size_drew]; omega)) _ | refine Ext.trans ?_ (by assumption)))) (fun h9 => absurd h9 (by omega)) _
              have hb1121 : Hb w21 b11 (.cells (encYF (kYF (ycrk o) false s14 s53 s63 (ycrA ks y f o) f.self)).toArray 121 (0, 0)) := by rw [hw21]; exact Hb.mk (Hb.h (by repeat (first | assumption | exact Hb.newY _ _ | refine Hb.alloc ?_ | refine Hb.drew ?_ | refine Hb.ext (by assumption) ?_ | exact Hb.setSameL (by first | omega | (simp only [size_alloc, size_setB, size_drew]; omega)) | exact Hb.setSame (by assumption) | refine Hb.set (by first | omega | (simp only [size_alloc, size_setB, size_drew]; omega)) ?_ )))
              have hN1421 : NN w21 s14 (ysent f.gas f.gas) := by rw [hw21]; exact NN.b121 hN14 (Hb.mk (Hb.h (by repeat (first | assumption | exact Hb.newY _ _ | refine Hb.alloc ?_ | refine Hb.drew ?_ | refine Hb.ext (by assumption) ?_ | exact Hb.setSameL (by first | omega | (simp only [size_alloc, size_setB, size_drew]; omega)) | exact Hb.setSame (by assumption) | refine Hb.set (by first | omega | (simp only [size_alloc, size_setB, size_drew]; omega)) ?_ ))))
              have hN5321 : NN w21 s53 (yarg f 0) := by rw [hw21]; exact NN.b121 (NN.ext hN5320 (by repeat (first | assumption | exact Ext.refl _ | refine Ext.alloc ?_ _ | refine Ext.drew ?_ | refine Ext.setB ?_ (by first | omega | (simp only [size_alloc, size_setB, size_drew]; omega)) _ | refine Ext.trans ?_ (by assumption)))) (Hb.mk (Hb.h (by repeat (first | assumption | exact Hb.newY _ _ | refine Hb.alloc ?_ | refine Hb.drew ?_ | refine Hb.ext (by assumption) ?_ | exact Hb.setSameL (by first | omega | (simp only [size_alloc, size_setB, size_drew]; omega)) | exact Hb.setSame (by assumption) | refine Hb.set (by first | omega | (simp only [size_alloc, size_setB, size_drew]; omega)) ?_ ))))
              have hN6321 : PB w21 s63 (ycode f) := by rw [hw21]; exact PB.b121 (PB.ext hN6320 (by repeat (first | assumption | exact Ext.refl _ | refine Ext.alloc ?_ _ | refine Ext.drew ?_ | refine Ext.setB ?_ (by first | omega | (simp only [size_alloc, size_setB, size_drew]; omega)) _ | refine Ext.trans ?_ (by assumption)))) (Hb.mk (Hb.h (by repeat (first | assumption | exact Hb.newY _ _ | refine Hb.alloc ?_ | refine Hb.drew ?_ | refine Hb.ext (by assumption) ?_ | exact Hb.setSameL (by first | omega | (simp only [size_alloc, size_setB, size_drew]; omega)) | exact Hb.setSame (by assumption) | refine Hb.set (by first | omega | (simp only [size_alloc, size_setB, size_drew]; omega)) ?_ ))))
              clear hw21
              have hz21 := hK21.sz
              have hb11l21 := hb1121.lt
              replace hO := hX21.omb
              have hSS21 := hX21.ss
              have hSb21 := hSS21.blk
              have hSl21 := hSb21.lt
              have hFb21 := hF21.blk
              have hFl21 := hFb21.lt
              have hNg21 := hF21.rel.gas
              have hs14 : sz (ysent f.gas f.gas) ≤ 30 := sz_ysent hgf
              have hk4c : Ce (encYF (kYF (ycrk o) false s14 s53 s63 (ycrA ks y f o) f.self)).toArray (0 + 4) (.slice s14.1 s14.2.1 s14.2.2) := ⟨rfl⟩
              have hszB := encYF_sz (x := (kYF (ycrk o) false s14 s53 s63 (ycrA ks y f o) f.self)) hAl hsbl
              have hk12c : Xt (encYF (kYF (ycrk o) false s14 s53 s63 (ycrA ks y f o) f.self)).toArray (0 + 12) (0 + 12 + 20) (ic .u8 (ycrA ks y f o)) := (FC.box rfl hAl hsbl).self
              refine W_drawE [false, false, false, false, false, false, false, false, false, false, false] hmix (by kernel_rfl) rfl ?_
              refine WH_p (PS_move_ptr rfl) rfl ?_
              refine WH_p (PS_move_ptr rfl) rfl ?_
              refine WH_p (PS_nilCheck rfl) rfl ?_
              refine WH_p (PS_fieldAddr 4 Hvac.runUnderlying121 rfl Hvac.sizeOf92 rfl rfl) rfl ?_
              refine WH_load (.slice _ _ _) Hvac.isAgg92 rfl (Hb.h (by repeat (first | assumption | exact Hb.newY _ _ | refine Hb.alloc ?_ | refine Hb.drew ?_ | refine Hb.ext (by assumption) ?_ | exact Hb.setSameL (by first | omega | (simp only [size_alloc, size_setB, size_drew]; omega)) | exact Hb.setSame (by assumption) | refine Hb.set (by first | omega | (simp only [size_alloc, size_setB, size_drew]; omega)) ?_ ))) (Ce.h (by first | assumption | exact ⟨rfl⟩)) ?_
              refine WH_p (PS_fieldAddr 4 Hvac.runUnderlying121 rfl Hvac.sizeOf92 rfl rfl) rfl ?_
              refine WH_load (.slice _ _ _) Hvac.isAgg92 rfl (Hb.h (by repeat (first | assumption | exact Hb.newY _ _ | refine Hb.alloc ?_ | refine Hb.drew ?_ | refine Hb.ext (by assumption) ?_ | exact Hb.setSameL (by first | omega | (simp only [size_alloc, size_setB, size_drew]; omega)) | exact Hb.setSame (by assumption) | refine Hb.set (by first | omega | (simp only [size_alloc, size_setB, size_drew]; omega)) ?_ ))) (Ce.h (by first | assumption | exact ⟨rfl⟩)) ?_
              refine WH_call Hvac.call20 (by rfl) (Ret.mono (less_spec _ (OmB.ext hO (by repeat (first | assumption | exact Ext.refl _ | refine Ext.alloc ?_ _ | refine Ext.drew ?_ | refine Ext.setB ?_ (by first | omega | (simp only [size_alloc, size_setB, size_drew]; omega)) _ | exact Ext.trans (by assumption) (by assumption) | refine Ext.trans ?_ (by assumption)))) _ _ _ _ (by first | exact NN.nil _ | assumption | exact NN.ext (by assumption) (by repeat (first | assumption | exact Ext.refl _ | refine Ext.alloc ?_ _ | refine Ext.drew ?_ | refine Ext.setB ?_ (by first | omega | (simp only [size_alloc, size_setB, size_drew]; omega)) _ | exact Ext.trans (by assumption) (by assumption) | refine Ext.trans ?_ (by assumption)))) (by first | assumption | omega | (rw [sz_zero]; omega)) _ _ _ _ (by first | exact NN.nil _ | assumption | exact NN.ext (by assumption) (by repeat (first | assumption | exact Ext.refl _ | refine Ext.alloc ?_ _ | refine Ext.drew ?_ | refine Ext.setB ?_ (by first | omega | (simp only [size_alloc, size_setB, size_drew]; omega)) _ | exact Ext.trans (by assumption) (by assumption) | refine Ext.trans ?_ (by assumption)))) (by first | assumption | omega | (rw [sz_zero]; omega))) ?_)
              rintro _ w20_40 ⟨hE20_40, s22, rfl, hN22⟩
              refine ⟨(fun h => by cases h), ?_⟩
              have hz20_40 := hE20_40.1
              try simp only [size_alloc, size_setB, size_drew] at hz20_40
              refine WH_p (PS_nilCheck rfl) rfl ?_
              refine WH_p (PS_fieldAddr 4 Hvac.runUnderlying121 rfl Hvac.sizeOf92 rfl rfl) rfl ?_
              refine WH_store1 Hvac.sizeOf92 rfl (v := (.slice _ _ _)) rfl (Hb.h (by repeat (first | assumption | exact Hb.newY _ _ | refine Hb.alloc ?_ | refine Hb.drew ?_ | refine Hb.ext (by assumption) ?_ | exact Hb.setSameL (by first | omega | (simp only [size_alloc, size_setB, size_drew]; omega)) | exact Hb.setSame (by assumption) | refine Hb.set (by first | omega | (simp only [size_alloc, size_setB, size_drew]; omega)) ?_ ))) rfl (by first | omega | assumption | rfl | decide | exact Nat.le_refl _ | (simp only [size_ic, Value.cells]; omega) | (simp [encWs]; done) | (simp; omega) | simp | exact encYA_sz (by assumption) | exact encYT_sz (by assumption) | exact encYM_sz (by assumption)) rfl (fun h => by cases h) ?_
              refine WH_nil ?_
              refine thn_normal ?_
              refine W_seq ?_
              refine W_gen fun w22 hw22 => ?_
              have hS22 := FStep.put (f' := (ycref f)) hw22 hF21 (by repeat (first | assumption | exact Ext.refl _ | refine Ext.alloc ?_ _ | refine Ext.drew ?_ | refine Ext.setB ?_ (by first | omega | (simp only [size_alloc, size_setB, size_drew]; omega)) _ | refine Ext.trans ?_ (by assumption))) (hFC.gas_ s22) (FrR.sGas (FrR.ext hF21.rel (by repeat (first | assumption | exact Ext.refl _ | refine Ext.alloc ?_ _ | refine Ext.drew ?_ | refine Ext.setB ?_ (by first | omega | (simp only [size_alloc, size_setB, size_drew]; omega)) _ | refine Ext.trans ?_ (by assumption)))) (by first | exact NN.nil _ | assumption | exact NN.ext (by assumption) (by repeat (first | assumption | exact Ext.refl _ | refine Ext.alloc ?_ _ | refine Ext.drew ?_ | refine Ext.setB ?_ (by first | omega | (simp only [size_alloc, size_setB, size_drew]; omega)) _ | refine Ext.trans ?_ (by assumption)))))
              have hF22 := hS22.m hFo
              have hKO22 := hS22.ko hFo
              replace hO := hO.keep hKO22
              have hFb22 := hF22.blk
              have hFC22 := hF22.fc
              have hFR22 := hF22.rel
              have hFl22 := hFb22.lt
              have hFsz22 := hFC22.size
              replace hN1421 := hN1421.keep hKO22
              replace hN5321 := hN5321.keep hKO22
              replace hN6321 := hN6321.keep hKO22
              clear hw22
              have hX22a := hX21.ftop (o := 0) hFp hxf hF21 hS22 rfl rfl
              have hK22 : KeepO Y w w22 := hK21.trans (KeepO.mono hS22.keep (fun b e => e ▸ hYF)) (fun _ _ e => e)
              obtain ⟨r22, x22, hF22b, hX22, hxf22⟩ : ∃ r22 x22, FrM w22 F (rest.length * 60) r22 x22 (ycref f) ∧ YX Y w22 C (xsAccts x s20) (ycre1 y f) (xs.set rest.length x22) (rest ++ [ycref f]) ∧ (xs.set rest.length x22)[rest.length]? = some x22 := ⟨_, _, hF22, hX22a, List.getElem?_set_self (lt_of_getElem? hxf)⟩
              replace hF22 := hF22b
              have hb1122 := hb1121.keepO hS22.keep (fun e => absurd e (by omega))
              have hb11l22 := hb1122.lt
              have hP22 : PFB (ycref f) := { hP with gas := Nat.le_trans (sz_mono (Nat.sub_le _ _)) hP.gas }
              have hz22 := hKO22.sz
              have hSS22 := hX22.ss
              have hSb22 := hSS22.blk
              have hSl22 := hSb22.lt
              replace hFb22 := hF22.blk
              replace hFl22 := hFb22.lt
              clear hS22 hFC22 hFR22 hFsz22 hX22a hF22b
              refine W_drawE [false, false, false, false, false, false] hmix (by kernel_rfl) rfl ?_
              refine WH_p (PS_move_ptr rfl) rfl ?_
              refine WH_p (PS_nilCheck rfl) rfl ?_
              refine WH_p (PS_fieldAddr 0 Hvac.runUnderlying99 rfl Hvac.sizeOf95 rfl rfl) rfl ?_
              refine WH_p (PS_fieldAddr 12 Hvac.runUnderlying121 rfl Hvac.sizeOf25 rfl rfl) rfl ?_
              refine WH_loadA _ Hvac.isAgg25 Hvac.sizeOf25 rfl (Hb.h (by repeat (first | assumption | exact Hb.newY _ _ | refine Hb.alloc ?_ | refine Hb.drew ?_ | refine Hb.ext (by assumption) ?_ | exact Hb.setSameL (by first | omega | (simp only [size_alloc, size_setB, size_drew]; omega)) | exact Hb.setSame (by assumption) | refine Hb.set (by first | omega | (simp only [size_alloc, size_setB, size_drew]; omega)) ?_ ))) (by first | omega | assumption | rfl | decide | exact Nat.le_refl _ | (simp only [size_ic, Value.cells]; omega) | (simp [encWs]; done) | (simp; omega) | simp | exact encYA_sz (by assumption) | exact encYT_sz (by assumption) | exact encYM_sz (by assumption)) (Xt.h (by first | assumption | exact Xt.whole rfl rfl | exact Xt.whole rfl (by assumption) | exact Xt.whole rfl (by simp only [size_ic, Value.cells]; omega) | exact ⟨rfl⟩)) ?_
              refine WH_call Hvac.call27 (by rfl) (Ret.mono (warmS_ (OmB.ext hO (by repeat (first | assumption | exact Ext.refl _ | refine Ext.alloc ?_ _ | refine Ext.drew ?_ | refine Ext.setB ?_ (by first | omega | (simp only [size_alloc, size_setB, size_drew]; omega)) _ | exact Ext.trans (by assumption) (by assumption) | refine Ext.trans ?_ (by assumption)))) (by first | assumption | exact YSS.ext (by assumption) (by repeat (first | assumption | exact Ext.refl _ | refine Ext.alloc ?_ _ | refine Ext.drew ?_ | refine Ext.setB ?_ (by first | omega | (simp only [size_alloc, size_setB, size_drew]; omega)) _ | exact Ext.trans (by assumption) (by assumption) | refine Ext.trans ?_ (by assumption)))) hB20 (by omega) (ycrA_by hK y f o)) ?_)
              rintro _ w13 ⟨rfl, s13, hT13⟩
              refine ⟨(fun h => by cases h), ?_⟩
              have hTa13 : SStep w22 w13 C (xsWarmA (xsAccts x s20) s13) (ycre2 ks y f o) := SStep.pre (by repeat (first | assumption | exact Ext.refl _ | refine Ext.alloc ?_ _ | refine Ext.drew ?_ | refine Ext.setB ?_ (by first | omega | (simp only [size_alloc, size_setB, size_drew]; omega)) _ | refine Ext.trans ?_ (by assumption))) hT13
              have hX13 := hX22.sstep hTa13 rfl rfl
              have hM13 := hF22.cs hX22.ss.blk hX22.ss.om hTa13.keep
              have hS13 := hM13.s0
              have hSS13 := hX13.ss
              have hSb13 := hSS13.blk
              have hSl13 := hSb13.lt
              have hFb13 := hM13.blk
              have hFl13 := hFb13.lt
              replace hO := hX13.omb
              have hz13 := hTa13.keep.sz
              have hzs13 := encYS_size (xsWarmA (xsAccts x s20) s13)
              have hb1113 : Hb w13 b11 (.cells (encYF (kYF (ycrk o) false s14 s53 s63 (ycrA ks y f o) f.self)).toArray 121 (0, 0)) := Hb.keepO hT13.keep (fun e => absurd e (by omega)) (Hb.mk (Hb.h (by repeat (first | assumption | exact Hb.newY _ _ | refine Hb.alloc ?_ | refine Hb.drew ?_ | refine Hb.ext (by assumption) ?_ | exact Hb.setSameL (by first | omega | (simp only [size_alloc, size_setB, size_drew]; omega)) | exact Hb.setSame (by assumption) | refine Hb.set (by first | omega | (simp only [size_alloc, size_setB, size_drew]; omega)) ?_ ))))
              have hb11l13 := hb1113.lt
              have hN1413 := (NN.ext hN1421 (by repeat (first | assumption | exact Ext.refl _ | refine Ext.alloc ?_ _ | refine Ext.drew ?_ | refine Ext.setB ?_ (by first | omega | (simp only [size_alloc, size_setB, size_drew]; omega)) _ | refine Ext.trans ?_ (by assumption)))).keep hT13.ko
              have hN5313 := (NN.ext hN5321 (by repeat (first | assumption | exact Ext.refl _ | refine Ext.alloc ?_ _ | refine Ext.drew ?_ | refine Ext.setB ?_ (by first | omega | (simp only [size_alloc, size_setB, size_drew]; omega)) _ | refine Ext.trans ?_ (by assumption)))).keep hT13.ko
              have hN6313 := (PB.ext hN6321 (by repeat (first | assumption | exact Ext.refl _ | refine Ext.alloc ?_ _ | refine Ext.drew ?_ | refine Ext.setB ?_ (by first | omega | (simp only [size_alloc, size_setB, size_drew]; omega)) _ | refine Ext.trans ?_ (by assumption)))).keep hT13.ko
              have hK13 : KeepO Y w w13 := hK22.trans (KeepO.mono hTa13.keep (fun b e => e ▸ hX.yc)) (fun _ _ e => e)
              have hB13 : PSB (N + 1 + 1) (ycre2 ks y f o) := hB20.warmA (ycrA ks y f o)
              
              refine WH_nil ?_
              refine thn_normal ?_
              refine W_seq ?_
              refine W_seq ?_
              refine W_region rfl ?_
              refine WO_p (PS_move_ptr rfl) ?_
              refine WO_p (PS_fieldAddr 12 Hvac.runUnderlying121 rfl Hvac.sizeOf25 rfl rfl) ?_
              refine WO_loadA _ Hvac.isAgg25 Hvac.sizeOf25 rfl (Hb.h (by repeat (first | assumption | exact Hb.newY _ _ | refine Hb.alloc ?_ | refine Hb.drew ?_ | refine Hb.ext (by assumption) ?_ | exact Hb.setSameL (by first | omega | (simp only [size_alloc, size_setB, size_drew]; omega)) | exact Hb.setSame (by assumption) | refine Hb.set (by first | omega | (simp only [size_alloc, size_setB, size_drew]; omega)) ?_ ))) (by first | omega | assumption | rfl | decide | exact Nat.le_refl _ | (simp only [size_ic, Value.cells]; omega) | (simp [encWs]; done) | (simp; omega) | simp | exact encYA_sz (by assumption) | exact encYT_sz (by assumption) | exact encYM_sz (by assumption)) (Xt.h (by first | assumption | exact Xt.whole rfl rfl | exact Xt.whole rfl (by assumption) | exact Xt.whole rfl (by simp only [size_ic, Value.cells]; omega) | exact ⟨rfl⟩)) ?_
              refine WO_call Hvac.call32 (by rfl) (Ret.mono (yTaken_spec _ (OmB.ext hO (by repeat (first | assumption | exact Ext.refl _ | refine Ext.alloc ?_ _ | refine Ext.drew ?_ | refine Ext.setB ?_ (by first | omega | (simp only [size_alloc, size_setB, size_drew]; omega)) _ | exact Ext.trans (by assumption) (by assumption) | refine Ext.trans ?_ (by assumption)))) _ _ _ _ (by first | assumption | exact YSS.ext (by assumption) (by repeat (first | assumption | exact Ext.refl _ | refine Ext.alloc ?_ _ | refine Ext.drew ?_ | refine Ext.setB ?_ (by first | omega | (simp only [size_alloc, size_setB, size_drew]; omega)) _ | exact Ext.trans (by assumption) (by assumption) | refine Ext.trans ?_ (by assumption)))) hB13 (by omega) _ (ycrA_by hK y f o)) ?_)
              rintro _ w32_42 ⟨hE32_42, rfl⟩
              have hz32_42 := hE32_42.1
              try simp only [size_alloc, size_setB, size_drew] at hz32_42
              refine WO_nil ?_
              refine thn_normal ?_
              refine W_if rfl (fun hb44 => ?_) (fun hb44 => ?_)
              · have hb44p := hb44.h; try simp only [al_ete, al_dfn, Bool.not_eq_true', Bool.not_eq_false', al_ne, Bool.not_not, al_nn] at hb44p
                have htk9 : ytaken (ycre2 ks y f o).now.accts (ycrA ks y f o) = true := by simpa using hb44p
                refine W_seq ?_
                refine W_region rfl ?_
                refine WO_p (PS_move_ptr rfl) ?_
                refine WO_p (PS_move_int rfl) ?_
                refine WO_call Hvac.call117 (by rfl) (Ret.mono (yAnswer_spec _ (OmB.ext hO (by repeat (first | assumption | exact Ext.refl _ | refine Ext.alloc ?_ _ | refine Ext.drew ?_ | refine Ext.setB ?_ (by first | omega | (simp only [size_alloc, size_setB, size_drew]; omega)) _ | exact Ext.trans (by assumption) (by assumption) | refine Ext.trans ?_ (by assumption)))) _ _ _ _ _ (FrM.ext hM13 (by repeat (first | assumption | exact Ext.refl _ | refine Ext.alloc ?_ _ | refine Ext.drew ?_ | refine Ext.setB ?_ (by first | omega | (simp only [size_alloc, size_setB, size_drew]; omega)) _ | exact Ext.trans (by assumption) (by assumption) | refine Ext.trans ?_ (by assumption)))) hP22 tk hst _ _ _ _ (NN.nil _) (by first | assumption | omega | (rw [sz_zero]; omega))) ?_)
                rintro _ w15 ⟨rfl, r15, x15, hS15, hm15⟩
                refine WO_nil ?_
                refine thn_normal ?_
                refine W_ret ?_
                refine thn_ret ?_
                first | refine bodyQ_ret0 Hvac.results123 ?_ | refine bodyQ_end0 Hvac.results123 ?_
                have hX15 := (hX13.ext (by repeat (first | assumption | exact Ext.refl _ | refine Ext.alloc ?_ _ | refine Ext.drew ?_ | refine Ext.setB ?_ (by first | omega | (simp only [size_alloc, size_setB, size_drew]; omega)) _ | refine Ext.trans ?_ (by assumption)))).ftop (o := 0) hFp hxf22 (FrM.ext hM13 (by repeat (first | assumption | exact Ext.refl _ | refine Ext.alloc ?_ _ | refine Ext.drew ?_ | refine Ext.setB ?_ (by first | omega | (simp only [size_alloc, size_setB, size_drew]; omega)) _ | refine Ext.trans ?_ (by assumption)))) hS15 hm15 rfl; have e9 : yenterCreate ks y rest f o = (ycre2 ks y f o, rest ++ [yanswer (ycref f) tk 0]) := (by unfold yenterCreate; rw [if_neg hq9, if_pos htk9, htn]); rw [e9]; exact ⟨rfl, hX15.ret ((hK13.extR (by repeat (first | assumption | exact Ext.refl _ | refine Ext.alloc ?_ _ | refine Ext.drew ?_ | refine Ext.setB ?_ (by first | omega | (simp only [size_alloc, size_setB, size_drew]; omega)) _ | refine Ext.trans ?_ (by assumption)))).trans (KeepO.mono hS15.keep (fun b e => e ▸ hYF)) (fun _ _ e => e))⟩
              · have hb44p := hb44.h; try simp only [al_ete, al_dfn, Bool.not_eq_true', Bool.not_eq_false', al_ne, Bool.not_not, al_nn] at hb44p
                have htk9 : ¬ ytaken (ycre2 ks y f o).now.accts (ycrA ks y f o) = true := by simpa using hb44p
                refine W_skip ?_
                refine thn_normal ?_
                refine W_seq ?_
                refine W_region rfl ?_
                refine WO_p (PS_move_ptr rfl) ?_
                refine WO_p (PS_move_int rfl) ?_
                refine WO_call Hvac.call201 (by rfl) (Ret.mono (yWait_spec _ (OmB.ext hO (by repeat (first | assumption | exact Ext.refl _ | refine Ext.alloc ?_ _ | refine Ext.drew ?_ | refine Ext.setB ?_ (by first | omega | (simp only [size_alloc, size_setB, size_drew]; omega)) _ | exact Ext.trans (by assumption) (by assumption) | refine Ext.trans ?_ (by assumption)))) _ _ _ _ _ (FrM.ext hM13 (by repeat (first | assumption | exact Ext.refl _ | refine Ext.alloc ?_ _ | refine Ext.drew ?_ | refine Ext.setB ?_ (by first | omega | (simp only [size_alloc, size_setB, size_drew]; omega)) _ | exact Ext.trans (by assumption) (by assumption) | refine Ext.trans ?_ (by assumption)))) hP22 tk hst _ _ _ _ (NN.nil _) (by first | assumption | omega | (rw [sz_zero]; omega)) _ _ _ _ (NN.nil _) (by first | assumption | omega | (rw [sz_zero]; omega))) ?_)
                rintro _ w16 ⟨rfl, r16, x16, hS16, hm16⟩
                have hX16 := (hX13.ext (by repeat (first | assumption | exact Ext.refl _ | refine Ext.alloc ?_ _ | refine Ext.drew ?_ | refine Ext.setB ?_ (by first | omega | (simp only [size_alloc, size_setB, size_drew]; omega)) _ | refine Ext.trans ?_ (by assumption)))).ftop (o := 0) hFp hxf22 (FrM.ext hM13 (by repeat (first | assumption | exact Ext.refl _ | refine Ext.alloc ?_ _ | refine Ext.drew ?_ | refine Ext.setB ?_ (by first | omega | (simp only [size_alloc, size_setB, size_drew]; omega)) _ | refine Ext.trans ?_ (by assumption)))) hS16 hm16 rfl
                have hb1116 : Hb w16 b11 (.cells (encYF (kYF (ycrk o) false s14 s53 s63 (ycrA ks y f o) f.self)).toArray 121 (0, 0)) := Hb.keepO hS16.keep (fun e => absurd e hne11F) (Hb.mk (Hb.h (by repeat (first | assumption | exact Hb.newY _ _ | refine Hb.alloc ?_ | refine Hb.drew ?_ | refine Hb.ext (by assumption) ?_ | exact Hb.setSameL (by first | omega | (simp only [size_alloc, size_setB, size_drew]; omega)) | exact Hb.setSame (by assumption) | refine Hb.set (by first | omega | (simp only [size_alloc, size_setB, size_drew]; omega)) ?_ ))))
                have hKf : KeepO (fun b => b = F) w13 w16 := (Ext.keepO (by repeat (first | assumption | exact Ext.refl _ | refine Ext.alloc ?_ _ | refine Ext.drew ?_ | refine Ext.setB ?_ (by first | omega | (simp only [size_alloc, size_setB, size_drew]; omega)) _ | refine Ext.trans ?_ (by assumption))) _).trans hS16.keep (fun _ _ e => e)
                have hKfo := hKf.om (fun b _ e => (e ▸ hFo : Om.p b))
                have hch16 : FrR w16 (kYF (ycrk o) false s14 s53 s63 (ycrA ks y f o) f.self) (ycrec ks y f o) := kYF_rel (NN.keep hN1413 hKfo) (NN.keep hN5313 hKfo) (PB.keep hN6313 hKfo) (ycrA_by hK y f o) hFR.sb
                have hb11l16 := hb1116.lt
                replace hO := hX16.omb
                have hK16 : KeepO Y w w16 := (hK13.extR (by repeat (first | assumption | exact Ext.refl _ | refine Ext.alloc ?_ _ | refine Ext.drew ?_ | refine Ext.setB ?_ (by first | omega | (simp only [size_alloc, size_setB, size_drew]; omega)) _ | refine Ext.trans ?_ (by assumption)))).trans (KeepO.mono hS16.keep (fun b e => e ▸ hYF)) (fun _ _ e => e)
                have honeK := one_YF (kYF (ycrk o) false s14 s53 s63 (ycrA ks y f o) f.self)
                have hck16 : (ycrec ks y f o).kind ≤ 255 := by show ycrk o ≤ 255; unfold ycrk; split <;> omega
                refine WO_nil ?_
                refine thn_normal ?_
                refine W_region rfl ?_
                refine WO_p (PS_move_ptr rfl) ?_
                refine WO_loadA _ Hvac.isAgg121 Hvac.sizeOf121 rfl (Hb.h (by repeat (first | assumption | exact Hb.newY _ _ | refine Hb.alloc ?_ | refine Hb.drew ?_ | refine Hb.ext (by assumption) ?_ | exact Hb.setSameL (by first | omega | (simp only [size_alloc, size_setB, size_drew]; omega)) | exact Hb.setSame (by assumption) | refine Hb.set (by first | omega | (simp only [size_alloc, size_setB, size_drew]; omega)) ?_ ))) (by first | omega | assumption | rfl | decide | exact Nat.le_refl _ | (simp only [size_ic, Value.cells]; omega) | (simp [encWs]; done) | (simp; omega) | simp | exact encYA_sz (by assumption) | exact encYT_sz (by assumption) | exact encYM_sz (by assumption)) (Xt.h (by first | assumption | exact Xt.whole rfl rfl | exact Xt.whole rfl (by assumption) | exact Xt.whole rfl (by simp only [size_ic, Value.cells]; omega) | exact ⟨rfl⟩)) ?_
                refine WO_call Hvac.call33 (by rfl) (Ret.mono (yEnter_spec _ (OmB.ext hO (by repeat (first | assumption | exact Ext.refl _ | refine Ext.alloc ?_ _ | refine Ext.drew ?_ | refine Ext.setB ?_ (by first | omega | (simp only [size_alloc, size_setB, size_drew]; omega)) _ | exact Ext.trans (by assumption) (by assumption) | refine Ext.trans ?_ (by assumption)))) Y C _ _ _ _ (N + 1 + 1) (YX.ext hX16 (by repeat (first | assumption | exact Ext.refl _ | refine Ext.alloc ?_ _ | refine Ext.drew ?_ | refine Ext.setB ?_ (by first | omega | (simp only [size_alloc, size_setB, size_drew]; omega)) _ | exact Ext.trans (by assumption) (by assumption) | refine Ext.trans ?_ (by assumption)))) hB13 (by omega) (hYB.setNonce f.self _) (by rw [List.length_append, List.length_singleton]; omega) _ _ (FrR.ext hch16 (by repeat (first | assumption | exact Ext.refl _ | refine Ext.alloc ?_ _ | refine Ext.drew ?_ | refine Ext.setB ?_ (by first | omega | (simp only [size_alloc, size_setB, size_drew]; omega)) _ | exact Ext.trans (by assumption) (by assumption) | refine Ext.trans ?_ (by assumption)))) rfl rfl (sz_yarg hP 0) hck16) ?_)
                rintro _ w17 ⟨rfl, hY17⟩
                refine WO_nil ?_
                first | refine bodyQ_ret0 Hvac.results123 ?_ | refine bodyQ_end0 Hvac.results123 ?_
                have e9 : yenterCreate ks y rest f o = yenter (ycre2 ks y f o) (rest ++ [ywait (ycref f) tk 0 0]) (ycrec ks y f o) := (by unfold yenterCreate; rw [if_neg hq9, if_neg htk9, htn]); rw [e9]; exact ⟨rfl, YRet.pre (hK16.extR (by repeat (first | assumption | exact Ext.refl _ | refine Ext.alloc ?_ _ | refine Ext.drew ?_ | refine Ext.setB ?_ (by first | omega | (simp only [size_alloc, size_setB, size_drew]; omega)) _ | refine Ext.trans ?_ (by assumption)))) hY17⟩

end Go.Proofs.YgvacwGreat
