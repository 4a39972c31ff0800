import Derived.Test.YgvacwGreatRi
namespace Go.Proofs.YgvacwGreat
set_option linter.unusedSimpArgs false
set_option linter.unusedVariables false

set_option maxRecDepth 10000 in
set_option maxHeartbeats 4000000 in
theorem yTstore_spec [Om] (w : World) (hO : OmB w) (S : Nat) (c : Array Value) (T : TypeId) (s : SV) (l : List (List Int × Nat × Nat)) (hS : Hb w S (.cells c T (0, 0))) (hc : Ce c (0 + 5) (.slice s.1 s.2.1 s.2.2)) (hl : TpsR 254 w s l) (hl8 : s.2.1 ≤ 100000000) (A : List Int) (hA : By A 20) (kp : Option Addr) (kn kc k : Nat) (hk : NN w (kp, kn, kc) k) (zk : sz k ≤ 32) (vp : Option Addr) (vn vc v : Nat) (hv : NN w (vp, vn, vc) v) (zv : sz v ≤ 32) (hSo : Om.p S) (hc0 : 5 < c.size) : Ret Hvac.prog 210 #[.pointer (some ⟨S, 0, none⟩), .agg (ic .u8 A), .slice kp kn kc, .slice vp vn vc] w fun u w' => u = .tuple #[] ∧ KeepO (fun b => b = S) w w' ∧ ∃ s' : SV, Hb w' S (.cells (c.setIfInBounds (0 + 5) (.slice s'.1 s'.2.1 s'.2.2)) T (0, 0)) ∧ TpsR 254 w' s' (yts l A k v) := by
  have hAl := hA.1
  have hSl := hS.lt
  obtain ⟨p, n, cp⟩ := s
  obtain ⟨L, hPL, hR⟩ := hl
  have hn := hPL.len
  dsimp only at hn hc hl8
  have hR1 := hR.1
  have hKVl : (encYT ⟨A, (kp, kn, kc), (vp, vn, vc)⟩).length = 22 := encYT_len hAl
  refine Ret_of_W Hvac.func210 rfl rfl ?_
  refine W_seq ?_
  refine W_region rfl ?_
  refine WO_boxG (.agg _) rfl ?_
  intro b5 v5 hg5 hE5 hH5 hl5
  try simp only [size_alloc, size_setB, size_drew] at hg5
  have hzz5 := hE5.1
  try simp only [size_alloc, size_setB, size_drew] at hzz5
  refine WO_nil ?_
  refine thn_normal ?_
  refine W_seq ?_
  refine W_region rfl ?_
  refine WO_p (PS_assign_slice rfl) ?_
  refine WO_nil ?_
  refine thn_normal ?_
  refine W_seq ?_
  refine W_region rfl ?_
  refine WO_p (PS_move_slice rfl) ?_
  refine WO_call Hvac.call91 (by rfl) (Ret.mono (yIsZero_spec _ (OmB.ext hO (by repeat (first | assumption | exact Ext.refl _ | refine Ext.alloc ?_ _ | refine Ext.drew ?_ | refine Ext.setB ?_ (by first | omega | (simp only [size_alloc, size_setB, size_drew]; omega)) _ | exact Ext.trans (by assumption) (by assumption) | refine Ext.trans ?_ (by assumption)))) _ _ _ _ (by first | exact NN.nil _ | assumption | exact NN.ext (by assumption) (by repeat (first | assumption | exact Ext.refl _ | refine Ext.alloc ?_ _ | refine Ext.drew ?_ | refine Ext.setB ?_ (by first | omega | (simp only [size_alloc, size_setB, size_drew]; omega)) _ | exact Ext.trans (by assumption) (by assumption) | refine Ext.trans ?_ (by assumption)))) (by first | assumption | omega | (rw [sz_zero]; omega))) ?_)
  rintro _ w91_0 ⟨hE91_0, rfl⟩
  have hz91_0 := hE91_0.1
  try simp only [size_alloc, size_setB, size_drew] at hz91_0
  refine WO_p (PS_assign_bool rfl) ?_
  refine WO_nil ?_
  refine thn_normal ?_
  refine W_seq ?_
  refine W_seq ?_
  refine W_region rfl ?_
  refine WO_p (PS_move_ptr rfl) ?_
  refine WO_p (PS_nilCheck rfl) ?_
  refine WO_p (PS_fieldAddr 5 Hvac.runUnderlying95 rfl Hvac.sizeOf93 rfl rfl) ?_
  refine WO_load (.slice _ _ _) Hvac.isAgg93 rfl (Hb.h (by repeat (first | assumption | exact Hb.newY _ _ | refine Hb.alloc ?_ | refine Hb.drew ?_ | refine Hb.ext (by assumption) ?_ | exact Hb.setSameL (by first | omega | (simp only [size_alloc, size_setB, size_drew]; omega)) | exact Hb.setSame (by assumption) | refine Hb.set (by first | omega | (simp only [size_alloc, size_setB, size_drew]; omega)) ?_ ))) (Ce.h (by first | assumption | exact ⟨rfl⟩)) ?_
  refine WO_p (PS_lenS Hvac.runUnderlying93 rfl) ?_
  refine WO_p (PS_move_int rfl) ?_
  refine WO_nil ?_
  refine thn_normal ?_
  refine W_block ?_
  refine W_loopN (fun k9 ρ w' => ∃ (i : Nat) (laid : Bool) (so : Option (Nat × Nat)) (K : List YTp) (m : List (List Int × Nat × Nat)), i + k9 = n ∧ K.length ≤ 2 * i ∧ R2 (TpR w) K m ∧ m ++ ytsGo A k v laid (l.drop i) = yts l A k v ∧ BL encYT 22 254 w [b5] w' so K ∧ Fr [(0, .pointer (some ⟨S, 0, none⟩)), (2, .slice kp kn kc), (3, .slice vp vn vc), (5, .pointer (some ⟨b5, 0, none⟩)), (8, .slice (slp so) K.length (slc so)), (9, .bool laid), (18, .slice p n cp), (19, .int .i64 n), (20, .int .i64 i)] ρ ∧ Ext w w' ∧ Hb w' b5 (.cells (ic .u8 A) 25 (0, 0))) n ?_ ?_
  · exact ⟨0, _, none, [], [], by omega, by simp, R2.nil _, rfl, BL.nil _ _ _ _ _ _, ⟨rfl, rfl, rfl, rfl, rfl, rfl, rfl, rfl, rfl, trivial⟩, (by repeat (first | assumption | exact Ext.refl _ | refine Ext.alloc ?_ _ | refine Ext.drew ?_ | refine Ext.setB ?_ (by first | omega | (simp only [size_alloc, size_setB, size_drew]; omega)) _ | refine Ext.trans ?_ (by assumption))), Hb.mk (Hb.h (by repeat (first | assumption | exact Hb.newY _ _ | refine Hb.alloc ?_ | refine Hb.drew ?_ | refine Hb.ext (by assumption) ?_ | exact Hb.setSameL (by first | omega | (simp only [size_alloc, size_setB, size_drew]; omega)) | exact Hb.setSame (by assumption) | refine Hb.set (by first | omega | (simp only [size_alloc, size_setB, size_drew]; omega)) ?_ )))⟩
  intro k3 ρ3 w3 hI3
  obtain ⟨i, laid, so, K, m, hik, hK8, hKm, hgo, hBL, hFr3, hE3, hb5k⟩ := hI3
  refine W_env _ hFr3 ?_
  have hz3 := hE3.1
  have hb5k_l := hb5k.lt
  refine W_seq ?_
  refine W_region rfl ?_
  refine WO_p (PS_lss rfl rfl) ?_
  refine WO_nil ?_
  refine thn_normal ?_
  refine W_seq ?_
  refine W_if rfl (fun hb4 => ?_) (fun hb4 => ?_)
  · have hb4p := hb4.h; try simp only [al_ete, al_dfn, Bool.not_eq_true', Bool.not_eq_false', al_ne, Bool.not_not, al_nn] at hb4p
    obtain ⟨x2, y2, hx2, hy2, hxy2⟩ := hR.get (i := i) (by omega)
    have hxl2 : x2.addr.length = 20 := by rw [hxy2.addr]; exact hxy2.ab.1
    have hxE2 := encYT_len hxl2
    obtain ⟨b, r, fz2, hp, hb, hrs, hXi⟩ := pl_at (hPL.ext hE3) hx2 hxE2
    subst hp
    have hX2 := encYT_addr hxl2
    have hk1 := encYT_1 hxl2
    have hone2 := one_YT2 x2
    have hsz2 : (encYT x2).toArray.size = 22 := by simpa using hxE2
    have hab2 := hxy2.ab
    rw [← hxy2.addr] at hab2
    have hadx : y2.1 = x2.addr := hxy2.addr.symm
    have hkn := hxy2.key
    have hkz := hxy2.kz
    have hk2 := encYT_2 hxl2
    refine W_skip ?_
    refine thn_normal ?_
    refine W_seq ?_
    refine W_block ?_
    refine W_seq ?_
    refine W_region rfl ?_
    refine WO_p (PS_indexS Hvac.runUnderlying93 Hvac.sizeOf254 rfl rfl (by omega) (by omega)) ?_
    refine WO_loadA _ Hvac.isAgg254 Hvac.sizeOf254 rfl (Hb.h (by repeat (first | assumption | exact Hb.newY _ _ | refine Hb.alloc ?_ | refine Hb.drew ?_ | refine Hb.ext (by assumption) ?_ | exact Hb.setSameL (by first | omega | (simp only [size_alloc, size_setB, size_drew]; omega)) | exact Hb.setSame (by assumption) | refine Hb.set (by first | omega | (simp only [size_alloc, size_setB, size_drew]; omega)) ?_ ))) (by first | omega | assumption | rfl | decide | exact Nat.le_refl _ | (simp only [size_ic, Value.cells]; omega) | (simp; omega) | simp) (Xt.h (by first | assumption | exact Xt.whole rfl rfl | exact Xt.whole rfl (by assumption) | exact Xt.whole rfl (by simp only [size_ic, Value.cells]; omega) | exact ⟨rfl⟩)) ?_
    refine WO_allocG Hvac.zeroValue254 ?_
    intro b11 v11 hg11 hE11 hH11 hl11
    try simp only [size_alloc, size_setB, size_drew] at hg11
    have hzz11 := hE11.1
    try simp only [size_alloc, size_setB, size_drew] at hzz11
    replace hH11 : Hb v11 b11 (.cells ((encYT ⟨List.replicate 20 0, (none, 0, 0), (none, 0, 0)⟩).toArray) 254 (0, 0)) := hH11
    first | refine WO_storeW Hvac.sizeOf254 rfl (v := .agg _) rfl (Hb.h (by repeat (first | assumption | exact Hb.newY _ _ | refine Hb.alloc ?_ | refine Hb.drew ?_ | refine Hb.ext (by assumption) ?_ | exact Hb.setSameL (by first | omega | (simp only [size_alloc, size_setB, size_drew]; omega)) | exact Hb.setSame (by assumption) | refine Hb.set (by first | omega | (simp only [size_alloc, size_setB, size_drew]; omega)) ?_ ))) rfl (by first | omega | assumption | rfl | decide | exact Nat.le_refl _ | (simp only [size_ic, Value.cells]; omega) | (simp; omega) | simp) (by first | omega | assumption | rfl | decide | exact Nat.le_refl _ | (simp only [size_ic, Value.cells]; omega) | (simp; omega) | simp) (by first | exact oneCell_ic | assumption) ?_ | refine WO_store Hvac.sizeOf254 rfl (v := .agg _) rfl (Hb.h (by repeat (first | assumption | exact Hb.newY _ _ | refine Hb.alloc ?_ | refine Hb.drew ?_ | refine Hb.ext (by assumption) ?_ | exact Hb.setSameL (by first | omega | (simp only [size_alloc, size_setB, size_drew]; omega)) | exact Hb.setSame (by assumption) | refine Hb.set (by first | omega | (simp only [size_alloc, size_setB, size_drew]; omega)) ?_ ))) (by first | omega | assumption | rfl | decide | exact Nat.le_refl _ | (simp only [size_ic, Value.cells]; omega) | (simp; omega) | simp) (by first | omega | assumption | rfl | decide | exact Nat.le_refl _ | (simp only [size_ic, Value.cells]; omega) | (simp; omega) | simp) (by first | exact oneCell_ic | assumption) ?_
    refine WO_nil ?_
    refine thn_normal ?_
    refine W_seqJ (fun ρ w' => Fr [(0, .pointer (some ⟨S, 0, none⟩)), (2, .slice kp kn kc), (3, .slice vp vn vc), (5, .pointer (some ⟨b5, 0, none⟩)), (8, .slice (slp so) K.length (slc so)), (9, .bool laid), (11, .pointer (some ⟨b11, 0, none⟩)), (12, .bool (ytSame A k y2)), (18, .slice (some ⟨b, 0, none⟩) n cp), (19, .int .i64 n), (20, .int .i64 i)] ρ ∧ Ext w w' ∧ BL encYT 22 254 w [b11, b5] w' so K ∧ Hb w' b5 (.cells (ic .u8 A) 25 (0, 0)) ∧ Hb w' b11 (.cells (encYT x2).toArray 254 (0, 0))) ?_ ?_
    · skip
      refine W_gen fun w6 hw6 => ?_
      have hBL6 : BL encYT 22 254 w [b11, b5] w6 so K := by rw [hw6]; exact ((hBL.cons hg11).ext hE11).set (Or.inl (by simp)) _
      have hb5_6 : Hb w6 b5 (.cells (ic .u8 A) 25 (0, 0)) := by rw [hw6]; exact Hb.set (by omega) (hb5k.ext hE11)
      have hb11_6 : Hb w6 b11 (.cells (encYT x2).toArray 254 (0, 0)) := by rw [hw6]; exact Hb.setSame hH11
      have hE36 : Ext w3 w6 := by rw [hw6]; exact Ext.setB hE11 (by omega) _
      have hE6 : Ext w w6 := hE3.trans hE36
      have hz6 := hE6.1
      have hb11l6 := hb11_6.lt
      have hb5l6 := hb5_6.lt
      clear hw6
      refine W_region rfl ?_
      refine WO_p (PS_fieldAddr 0 Hvac.runUnderlying254 rfl Hvac.sizeOf25 rfl rfl) ?_
      refine WO_loadA _ Hvac.isAgg25 Hvac.sizeOf25 rfl (Hb.h (by repeat (first | assumption | exact Hb.newY _ _ | refine Hb.alloc ?_ | refine Hb.drew ?_ | refine Hb.ext (by assumption) ?_ | exact Hb.setSameL (by first | omega | (simp only [size_alloc, size_setB, size_drew]; omega)) | exact Hb.setSame (by assumption) | refine Hb.set (by first | omega | (simp only [size_alloc, size_setB, size_drew]; omega)) ?_ ))) (by first | omega | assumption | rfl | decide | exact Nat.le_refl _ | (simp only [size_ic, Value.cells]; omega) | (simp; omega) | simp) (Xt.h (by first | assumption | exact Xt.whole rfl rfl | exact Xt.whole rfl (by assumption) | exact Xt.whole rfl (by simp only [size_ic, Value.cells]; omega) | exact ⟨rfl⟩)) ?_
      refine WO_loadA _ Hvac.isAgg25 Hvac.sizeOf25 rfl (Hb.h (by repeat (first | assumption | exact Hb.newY _ _ | refine Hb.alloc ?_ | refine Hb.drew ?_ | refine Hb.ext (by assumption) ?_ | exact Hb.setSameL (by first | omega | (simp only [size_alloc, size_setB, size_drew]; omega)) | exact Hb.setSame (by assumption) | refine Hb.set (by first | omega | (simp only [size_alloc, size_setB, size_drew]; omega)) ?_ ))) (by first | omega | assumption | rfl | decide | exact Nat.le_refl _ | (simp only [size_ic, Value.cells]; omega) | (simp; omega) | simp) (Xt.h (by first | assumption | exact Xt.whole rfl rfl | exact Xt.whole rfl (by assumption) | exact Xt.whole rfl (by simp only [size_ic, Value.cells]; omega) | exact ⟨rfl⟩)) ?_
      refine WO_p (PS_eqlA Hvac.underlying25 Hvac.underlying5 Hvac.sizeOf5 Hvac.eqGuardType25 rfl rfl (by first | omega | assumption | rfl | decide | exact Nat.le_refl _ | (simp only [size_ic, Value.cells]; omega) | (simp; omega) | simp) (by first | omega | assumption | rfl | decide | exact Nat.le_refl _ | (simp only [size_ic, Value.cells]; omega) | (simp; omega) | simp)) ?_
      refine WO_p (PS_move_bool rfl) ?_
      refine WO_if (t := 28) rfl (fun hb6 => ?_) (fun hb6 => ?_)
      · have hb6p := hb6.h; try simp only [al_ete, al_dfn, Bool.not_eq_true', Bool.not_eq_false', al_ne, Bool.not_not, al_nn] at hb6p
        have hsa : x2.addr = A := hb6p
        refine WO_guardT rfl rfl hb6.h ?_
        refine WO_p (PS_fieldAddr 20 Hvac.runUnderlying254 rfl Hvac.sizeOf92 rfl rfl) ?_
        refine WO_guardT rfl rfl hb6.h ?_
        refine WO_load (.slice _ _ _) Hvac.isAgg92 rfl (Hb.h (by repeat (first | assumption | exact Hb.newY _ _ | refine Hb.alloc ?_ | refine Hb.drew ?_ | refine Hb.ext (by assumption) ?_ | exact Hb.setSameL (by first | omega | (simp only [size_alloc, size_setB, size_drew]; omega)) | exact Hb.setSame (by assumption) | refine Hb.set (by first | omega | (simp only [size_alloc, size_setB, size_drew]; omega)) ?_ ))) (Ce.h (by first | assumption | exact ⟨rfl⟩)) ?_
        refine WO_guardT rfl rfl hb6.h ?_
        refine WO_p (PS_move_slice rfl) ?_
        refine WO_guardT rfl rfl hb6.h ?_
        refine WO_call Hvac.call76 (by rfl) (Ret.mono (nCmp_spec (by first | exact NN.nil _ | assumption | exact NN.ext (by assumption) (by repeat (first | assumption | exact Ext.refl _ | refine Ext.alloc ?_ _ | refine Ext.drew ?_ | refine Ext.setB ?_ (by first | omega | (simp only [size_alloc, size_setB, size_drew]; omega)) _ | exact Ext.trans (by assumption) (by assumption) | refine Ext.trans ?_ (by assumption)))) (by first | exact NN.nil _ | assumption | exact NN.ext (by assumption) (by repeat (first | assumption | exact Ext.refl _ | refine Ext.alloc ?_ _ | refine Ext.drew ?_ | refine Ext.setB ?_ (by first | omega | (simp only [size_alloc, size_setB, size_drew]; omega)) _ | exact Ext.trans (by assumption) (by assumption) | refine Ext.trans ?_ (by assumption)))) (by first | assumption | omega | (rw [sz_zero]; omega)) (by first | assumption | omega | (rw [sz_zero]; omega))) ?_)
        rintro _ w76_6 ⟨hE76_6, rfl⟩
        have hz76_6 := hE76_6.1
        try simp only [size_alloc, size_setB, size_drew] at hz76_6
        refine WO_guardT rfl rfl hb6.h ?_
        refine WO_p (PS_eql rfl rfl) ?_
        refine WO_p (PS_pickT rfl hb6.h rfl) ?_
        refine WO_p (PS_assign_bool rfl) ?_
        refine WO_nil ?_
        refine thn_normal ?_
        first
        | exact ⟨⟨rfl, rfl, rfl, rfl, rfl, rfl, rfl, congrArg Value.bool hsame.symm, rfl, rfl, rfl, trivial⟩, (by repeat (first | assumption | exact Ext.refl _ | refine Ext.alloc ?_ _ | refine Ext.drew ?_ | refine Ext.setB ?_ (by first | omega | (simp only [size_alloc, size_setB, size_drew]; omega)) _ | exact Ext.trans (by assumption) (by assumption) | refine Ext.trans ?_ (by assumption))), hBL6.ext (by repeat (first | assumption | exact Ext.refl _ | refine Ext.alloc ?_ _ | refine Ext.drew ?_ | refine Ext.setB ?_ (by first | omega | (simp only [size_alloc, size_setB, size_drew]; omega)) _ | exact Ext.trans (by assumption) (by assumption) | refine Ext.trans ?_ (by assumption))), Hb.mk (Hb.h (by repeat (first | assumption | exact Hb.newY _ _ | refine Hb.alloc ?_ | refine Hb.drew ?_ | refine Hb.ext (by assumption) ?_ | exact Hb.setSameL (by first | omega | (simp only [size_alloc, size_setB, size_drew]; omega)) | exact Hb.setSame (by assumption) | refine Hb.set (by first | omega | (simp only [size_alloc, size_setB, size_drew]; omega)) ?_ ))), Hb.mk (Hb.h (by repeat (first | assumption | exact Hb.newY _ _ | refine Hb.alloc ?_ | refine Hb.drew ?_ | refine Hb.ext (by assumption) ?_ | exact Hb.setSameL (by first | omega | (simp only [size_alloc, size_setB, size_drew]; omega)) | exact Hb.setSame (by assumption) | refine Hb.set (by first | omega | (simp only [size_alloc, size_setB, size_drew]; omega)) ?_ )))⟩
        | (refine ⟨⟨rfl, rfl, rfl, rfl, rfl, rfl, rfl, ?_, rfl, rfl, rfl, trivial⟩, (by repeat (first | assumption | exact Ext.refl _ | refine Ext.alloc ?_ _ | refine Ext.drew ?_ | refine Ext.setB ?_ (by first | omega | (simp only [size_alloc, size_setB, size_drew]; omega)) _ | exact Ext.trans (by assumption) (by assumption) | refine Ext.trans ?_ (by assumption))), hBL6.ext (by repeat (first | assumption | exact Ext.refl _ | refine Ext.alloc ?_ _ | refine Ext.drew ?_ | refine Ext.setB ?_ (by first | omega | (simp only [size_alloc, size_setB, size_drew]; omega)) _ | exact Ext.trans (by assumption) (by assumption) | refine Ext.trans ?_ (by assumption))), Hb.mk (Hb.h (by repeat (first | assumption | exact Hb.newY _ _ | refine Hb.alloc ?_ | refine Hb.drew ?_ | refine Hb.ext (by assumption) ?_ | exact Hb.setSameL (by first | omega | (simp only [size_alloc, size_setB, size_drew]; omega)) | exact Hb.setSame (by assumption) | refine Hb.set (by first | omega | (simp only [size_alloc, size_setB, size_drew]; omega)) ?_ ))), Hb.mk (Hb.h (by repeat (first | assumption | exact Hb.newY _ _ | refine Hb.alloc ?_ | refine Hb.drew ?_ | refine Hb.ext (by assumption) ?_ | exact Hb.setSameL (by first | omega | (simp only [size_alloc, size_setB, size_drew]; omega)) | exact Hb.setSame (by assumption) | refine Hb.set (by first | omega | (simp only [size_alloc, size_setB, size_drew]; omega)) ?_ )))⟩; show Value.bool _ = _; unfold ytSame; rw [hadx, hsa]; simp [cmpI_eq2])
      · have hb6p := hb6.h; try simp only [al_ete, al_dfn, Bool.not_eq_true', Bool.not_eq_false', al_ne, Bool.not_not, al_nn] at hb6p
        have hsame : ytSame A k y2 = false := by unfold ytSame; rw [hadx]; simp [hb6p]
        refine WO_guardF rfl rfl hb6.h ?_
        refine WO_guardF rfl rfl hb6.h ?_
        refine WO_guardF rfl rfl hb6.h ?_
        refine WO_guardF rfl rfl hb6.h ?_
        refine WO_guardF rfl rfl hb6.h ?_
        refine WO_p (PS_pickF rfl hb6.h rfl) ?_
        refine WO_p (PS_assign_bool rfl) ?_
        refine WO_nil ?_
        refine thn_normal ?_
        first
        | exact ⟨⟨rfl, rfl, rfl, rfl, rfl, rfl, rfl, congrArg Value.bool hsame.symm, rfl, rfl, rfl, trivial⟩, (by repeat (first | assumption | exact Ext.refl _ | refine Ext.alloc ?_ _ | refine Ext.drew ?_ | refine Ext.setB ?_ (by first | omega | (simp only [size_alloc, size_setB, size_drew]; omega)) _ | exact Ext.trans (by assumption) (by assumption) | refine Ext.trans ?_ (by assumption))), hBL6.ext (by repeat (first | assumption | exact Ext.refl _ | refine Ext.alloc ?_ _ | refine Ext.drew ?_ | refine Ext.setB ?_ (by first | omega | (simp only [size_alloc, size_setB, size_drew]; omega)) _ | exact Ext.trans (by assumption) (by assumption) | refine Ext.trans ?_ (by assumption))), Hb.mk (Hb.h (by repeat (first | assumption | exact Hb.newY _ _ | refine Hb.alloc ?_ | refine Hb.drew ?_ | refine Hb.ext (by assumption) ?_ | exact Hb.setSameL (by first | omega | (simp only [size_alloc, size_setB, size_drew]; omega)) | exact Hb.setSame (by assumption) | refine Hb.set (by first | omega | (simp only [size_alloc, size_setB, size_drew]; omega)) ?_ ))), Hb.mk (Hb.h (by repeat (first | assumption | exact Hb.newY _ _ | refine Hb.alloc ?_ | refine Hb.drew ?_ | refine Hb.ext (by assumption) ?_ | exact Hb.setSameL (by first | omega | (simp only [size_alloc, size_setB, size_drew]; omega)) | exact Hb.setSame (by assumption) | refine Hb.set (by first | omega | (simp only [size_alloc, size_setB, size_drew]; omega)) ?_ )))⟩
        | (refine ⟨⟨rfl, rfl, rfl, rfl, rfl, rfl, rfl, ?_, rfl, rfl, rfl, trivial⟩, (by repeat (first | assumption | exact Ext.refl _ | refine Ext.alloc ?_ _ | refine Ext.drew ?_ | refine Ext.setB ?_ (by first | omega | (simp only [size_alloc, size_setB, size_drew]; omega)) _ | exact Ext.trans (by assumption) (by assumption) | refine Ext.trans ?_ (by assumption))), hBL6.ext (by repeat (first | assumption | exact Ext.refl _ | refine Ext.alloc ?_ _ | refine Ext.drew ?_ | refine Ext.setB ?_ (by first | omega | (simp only [size_alloc, size_setB, size_drew]; omega)) _ | exact Ext.trans (by assumption) (by assumption) | refine Ext.trans ?_ (by assumption))), Hb.mk (Hb.h (by repeat (first | assumption | exact Hb.newY _ _ | refine Hb.alloc ?_ | refine Hb.drew ?_ | refine Hb.ext (by assumption) ?_ | exact Hb.setSameL (by first | omega | (simp only [size_alloc, size_setB, size_drew]; omega)) | exact Hb.setSame (by assumption) | refine Hb.set (by first | omega | (simp only [size_alloc, size_setB, size_drew]; omega)) ?_ ))), Hb.mk (Hb.h (by repeat (first | assumption | exact Hb.newY _ _ | refine Hb.alloc ?_ | refine Hb.drew ?_ | refine Hb.ext (by assumption) ?_ | exact Hb.setSameL (by first | omega | (simp only [size_alloc, size_setB, size_drew]; omega)) | exact Hb.setSame (by assumption) | refine Hb.set (by first | omega | (simp only [size_alloc, size_setB, size_drew]; omega)) ?_ )))⟩; show Value.bool _ = _; unfold ytSame; rw [hadx, hsa]; simp [cmpI_eq2])
    · rintro ρ4 w4 ⟨hFr4, hE4, hBL6, hb5_4, hb11_4⟩
      refine W_env _ hFr4 ?_
      have hz4 := hE4.1
      have hb5l4 := hb5_4.lt
      have hb11l4 := hb11_4.lt
      refine W_seqJ (fun ρ w' => ∃ (so2 : Option (Nat × Nat)) (K2 : List YTp) (m2 : List (List Int × Nat × Nat)), m2 = m ++ (if (!laid && ytIns A k y2) then [(A, k, v)] else []) ∧ K2.length ≤ K.length + 1 ∧ R2 (TpR w) K2 m2 ∧ BL encYT 22 254 w [b11, b5] w' so2 K2 ∧ Fr [(0, .pointer (some ⟨S, 0, none⟩)), (2, .slice kp kn kc), (3, .slice vp vn vc), (5, .pointer (some ⟨b5, 0, none⟩)), (8, .slice (slp so2) K2.length (slc so2)), (9, .bool (laid || (!laid && ytIns A k y2))), (11, .pointer (some ⟨b11, 0, none⟩)), (12, .bool (ytSame A k y2)), (18, .slice (some ⟨b, 0, none⟩) n cp), (19, .int .i64 n), (20, .int .i64 i)] ρ ∧ Ext w w' ∧ Hb w' b5 (.cells (ic .u8 A) 25 (0, 0)) ∧ Hb w' b11 (.cells (encYT x2).toArray 254 (0, 0))) ?_ ?_
      · skip
        refine W_seq ?_
        refine W_region rfl ?_
        refine WO_p (PS_move_bool rfl) ?_
        refine WO_p (PS_not rfl) ?_
        refine WO_p (PS_move_bool rfl) ?_
        refine WO_if (t := 37) rfl (fun hb11 => ?_) (fun hb11 => ?_)
        · have hb11p := hb11.h; try simp only [al_ete, al_dfn, Bool.not_eq_true', Bool.not_eq_false', al_ne, Bool.not_not, al_nn] at hb11p
          have hlaid : laid = false := by simpa using hb11p
          refine WO_guardT rfl rfl hb11.h ?_
          refine WO_p (PS_move_bool rfl) ?_
          refine WO_guardT rfl rfl hb11.h ?_
          refine WO_p (PS_move_bool rfl) ?_
          refine WO_if (t := 39) rfl (fun hb13 => ?_) (fun hb13 => ?_)
          · have hb13p := hb13.h; try simp only [al_ete, al_dfn, Bool.not_eq_true', Bool.not_eq_false', al_ne, Bool.not_not, al_nn] at hb13p
            have hsame : ytSame A k y2 = true := by simpa using hb13p
            have hbf : ytIns A k y2 = true := by unfold ytIns; rw [hsame]; rfl
            refine WO_guardF rfl rfl hb13.h ?_
            refine WO_guardF rfl rfl hb13.h ?_
            refine WO_guardF rfl rfl hb13.h ?_
            refine WO_guardF rfl rfl hb13.h ?_
            refine WO_guardT rfl rfl hb11.h ?_
            refine WO_p (PS_pickT rfl hb13.h rfl) ?_
            refine WO_guardT rfl rfl hb11.h ?_
            refine WO_p (PS_move_bool rfl) ?_
            refine WO_guardF rfl rfl rfl ?_
            refine WO_guardF rfl rfl rfl ?_
            refine WO_guardF rfl rfl rfl ?_
            refine WO_guardF rfl rfl rfl ?_
            refine WO_guardF rfl rfl rfl ?_
            refine WO_guardU rfl rfl ?_
            refine WO_guardU rfl rfl ?_
            refine WO_guardU rfl rfl ?_
            refine WO_guardU rfl rfl ?_
            refine WO_guardU rfl rfl ?_
            refine WO_guardF rfl rfl rfl ?_
            refine WO_guardT rfl rfl hb11.h ?_
            refine WO_p (PS_pickT rfl rfl rfl) ?_
            refine WO_p (PS_pickT rfl hb11.h rfl) ?_
            refine WO_nil ?_
            refine thn_normal ?_
            refine W_condT rfl rfl ?_
            refine W_seq ?_
            refine W_region rfl ?_
            refine WO_p (PS_move_slice rfl) ?_
            refine WO_loadA _ Hvac.isAgg25 Hvac.sizeOf25 rfl (Hb.h (by repeat (first | assumption | exact Hb.newY _ _ | refine Hb.alloc ?_ | refine Hb.drew ?_ | refine Hb.ext (by assumption) ?_ | exact Hb.setSameL (by first | omega | (simp only [size_alloc, size_setB, size_drew]; omega)) | exact Hb.setSame (by assumption) | refine Hb.set (by first | omega | (simp only [size_alloc, size_setB, size_drew]; omega)) ?_ ))) (by first | omega | assumption | rfl | decide | exact Nat.le_refl _ | (simp only [size_ic, Value.cells]; omega) | (simp; omega) | simp) (Xt.h (by first | assumption | exact Xt.whole rfl rfl | exact Xt.whole rfl (by assumption) | exact Xt.whole rfl (by simp only [size_ic, Value.cells]; omega) | exact ⟨rfl⟩)) ?_
            refine WO_p (PS_move_slice rfl) ?_
            refine WO_p (PS_move_slice rfl) ?_
            refine WO_p (PS_b254 (A := A) rfl hAl rfl rfl) ?_
            refine WO_buildSlice1 Hvac.runUnderlying93 Hvac.sizeOf254 Hvac.zeroValue254 rfl (by first | omega | assumption | rfl | decide | exact Nat.le_refl _ | (simp only [size_ic, Value.cells]; omega) | (simp; omega) | simp) (by decide) (by decide) ?_
            refine WO_app (YTp.mk A (kp, kn, kc) (vp, vn, vc)) ap_YT (BL.ext hBL6 (by repeat (first | assumption | exact Ext.refl _ | refine Ext.alloc ?_ _ | refine Ext.drew ?_ | refine Ext.setB ?_ (by first | omega | (simp only [size_alloc, size_setB, size_drew]; omega)) _ | exact Ext.trans (by assumption) (by assumption) | refine Ext.trans ?_ (by assumption)))) (by repeat (first | assumption | exact Ext.refl _ | refine Ext.alloc ?_ _ | refine Ext.drew ?_ | refine Ext.setB ?_ (by first | omega | (simp only [size_alloc, size_setB, size_drew]; omega)) _ | exact Ext.trans (by assumption) (by assumption) | refine Ext.trans ?_ (by assumption))) (fm2 (by first | omega | (simp only [size_alloc, size_setB, size_drew]; omega)) (by first | omega | (simp only [size_alloc, size_setB, size_drew]; omega))) (by omega) hKVl (Hb.newY _ _) rfl rfl ?_
            intro soA wA hBA hEA hkA hzA
            try simp only [size_alloc, size_setB, size_drew] at hzA
            have hb5_A := hkA b5 _ (by simp) (Hb.mk (Hb.h (by repeat (first | assumption | exact Hb.newY _ _ | refine Hb.alloc ?_ | refine Hb.drew ?_ | refine Hb.ext (by assumption) ?_ | exact Hb.setSameL (by first | omega | (simp only [size_alloc, size_setB, size_drew]; omega)) | exact Hb.setSame (by assumption) | refine Hb.set (by first | omega | (simp only [size_alloc, size_setB, size_drew]; omega)) ?_ ))) : Hb _ b5 (.cells (ic .u8 A) 25 (0, 0)))
            have hb11_A := hkA b11 _ (by simp) (Hb.mk (Hb.h (by repeat (first | assumption | exact Hb.newY _ _ | refine Hb.alloc ?_ | refine Hb.drew ?_ | refine Hb.ext (by assumption) ?_ | exact Hb.setSameL (by first | omega | (simp only [size_alloc, size_setB, size_drew]; omega)) | exact Hb.setSame (by assumption) | refine Hb.set (by first | omega | (simp only [size_alloc, size_setB, size_drew]; omega)) ?_ ))) : Hb _ b11 (.cells (encYT x2).toArray 254 (0, 0)))
            refine WO_p (PS_assign_slice rfl) ?_
            refine WO_nil ?_
            refine thn_normal ?_
            refine W_region rfl ?_
            refine WO_p (PS_assign_bool rfl) ?_
            refine WO_nil ?_
            refine thn_normal ?_
            refine ⟨soA, K ++ [(YTp.mk A (kp, kn, kc) (vp, vn, vc))], m ++ [(A, k, v)], ?_, by simp, hKm.snoc ⟨rfl, hA, hk, hv, zk, zv⟩, hBA, ⟨rfl, rfl, rfl, rfl, rfl, ?_, rfl, ?_, rfl, rfl, rfl, trivial⟩, hEA, hb5_A, hb11_A⟩; (simp [hlaid, hbf]); (show Value.bool _ = _; simp [hlaid, hbf]); (show Value.bool _ = _; first | rfl | (rw [hsame]))
          · have hb13p := hb13.h; try simp only [al_ete, al_dfn, Bool.not_eq_true', Bool.not_eq_false', al_ne, Bool.not_not, al_nn] at hb13p
            have hsame : ytSame A k y2 = false := by simpa using hb13p
            refine WO_guardT rfl rfl hb13.h ?_
            refine WO_loadA _ Hvac.isAgg25 Hvac.sizeOf25 rfl (Hb.h (by repeat (first | assumption | exact Hb.newY _ _ | refine Hb.alloc ?_ | refine Hb.drew ?_ | refine Hb.ext (by assumption) ?_ | exact Hb.setSameL (by first | omega | (simp only [size_alloc, size_setB, size_drew]; omega)) | exact Hb.setSame (by assumption) | refine Hb.set (by first | omega | (simp only [size_alloc, size_setB, size_drew]; omega)) ?_ ))) (by first | omega | assumption | rfl | decide | exact Nat.le_refl _ | (simp only [size_ic, Value.cells]; omega) | (simp; omega) | simp) (Xt.h (by first | assumption | exact Xt.whole rfl rfl | exact Xt.whole rfl (by assumption) | exact Xt.whole rfl (by simp only [size_ic, Value.cells]; omega) | exact ⟨rfl⟩)) ?_
            refine WO_guardT rfl rfl hb13.h ?_
            refine WO_p (PS_fieldAddr 0 Hvac.runUnderlying254 rfl Hvac.sizeOf25 rfl rfl) ?_
            refine WO_guardT rfl rfl hb13.h ?_
            refine WO_loadA _ Hvac.isAgg25 Hvac.sizeOf25 rfl (Hb.h (by repeat (first | assumption | exact Hb.newY _ _ | refine Hb.alloc ?_ | refine Hb.drew ?_ | refine Hb.ext (by assumption) ?_ | exact Hb.setSameL (by first | omega | (simp only [size_alloc, size_setB, size_drew]; omega)) | exact Hb.setSame (by assumption) | refine Hb.set (by first | omega | (simp only [size_alloc, size_setB, size_drew]; omega)) ?_ ))) (by first | omega | assumption | rfl | decide | exact Nat.le_refl _ | (simp only [size_ic, Value.cells]; omega) | (simp; omega) | simp) (Xt.h (by first | assumption | exact Xt.whole rfl rfl | exact Xt.whole rfl (by assumption) | exact Xt.whole rfl (by simp only [size_ic, Value.cells]; omega) | exact ⟨rfl⟩)) ?_
            refine WO_guardT rfl rfl hb13.h ?_
            refine WO_call Hvac.call90 (by rfl) (Ret.mono (yBefore_spec _ (OmB.ext hO (by repeat (first | assumption | exact Ext.refl _ | refine Ext.alloc ?_ _ | refine Ext.drew ?_ | refine Ext.setB ?_ (by first | omega | (simp only [size_alloc, size_setB, size_drew]; omega)) _ | exact Ext.trans (by assumption) (by assumption) | refine Ext.trans ?_ (by assumption)))) _ _ (by assumption) (by assumption)) ?_)
            rintro _ w90_13 ⟨hE90_13, rfl⟩
            have hz90_13 := hE90_13.1
            try simp only [size_alloc, size_setB, size_drew] at hz90_13
            refine WO_guardT rfl rfl hb11.h ?_
            refine WO_p (PS_pickF rfl hb13.h rfl) ?_
            refine WO_guardT rfl rfl hb11.h ?_
            refine WO_p (PS_move_bool rfl) ?_
            refine WO_if (t := 45) rfl (fun hb16 => ?_) (fun hb16 => ?_)
            · have hb16p := hb16.h; try simp only [al_ete, al_dfn, Bool.not_eq_true', Bool.not_eq_false', al_ne, Bool.not_not, al_nn] at hb16p
              have hb43 : yless A x2.addr = true := hb16p
              have hbf : ytIns A k y2 = true := by unfold ytIns; rw [hsame, hadx, hb43]; rfl
              refine WO_guardF rfl rfl hb16.h ?_
              refine WO_guardF rfl rfl hb16.h ?_
              refine WO_guardF rfl rfl hb16.h ?_
              refine WO_guardF rfl rfl hb16.h ?_
              refine WO_guardF rfl rfl hb16.h ?_
              refine WO_guardU rfl rfl ?_
              refine WO_guardU rfl rfl ?_
              refine WO_guardU rfl rfl ?_
              refine WO_guardU rfl rfl ?_
              refine WO_guardU rfl rfl ?_
              refine WO_guardF rfl rfl hb16.h ?_
              refine WO_guardT rfl rfl hb11.h ?_
              refine WO_p (PS_pickT rfl hb16.h rfl) ?_
              refine WO_p (PS_pickT rfl hb11.h rfl) ?_
              refine WO_nil ?_
              refine thn_normal ?_
              refine W_condT rfl rfl ?_
              refine W_seq ?_
              refine W_region rfl ?_
              refine WO_p (PS_move_slice rfl) ?_
              refine WO_loadA _ Hvac.isAgg25 Hvac.sizeOf25 rfl (Hb.h (by repeat (first | assumption | exact Hb.newY _ _ | refine Hb.alloc ?_ | refine Hb.drew ?_ | refine Hb.ext (by assumption) ?_ | exact Hb.setSameL (by first | omega | (simp only [size_alloc, size_setB, size_drew]; omega)) | exact Hb.setSame (by assumption) | refine Hb.set (by first | omega | (simp only [size_alloc, size_setB, size_drew]; omega)) ?_ ))) (by first | omega | assumption | rfl | decide | exact Nat.le_refl _ | (simp only [size_ic, Value.cells]; omega) | (simp; omega) | simp) (Xt.h (by first | assumption | exact Xt.whole rfl rfl | exact Xt.whole rfl (by assumption) | exact Xt.whole rfl (by simp only [size_ic, Value.cells]; omega) | exact ⟨rfl⟩)) ?_
              refine WO_p (PS_move_slice rfl) ?_
              refine WO_p (PS_move_slice rfl) ?_
              refine WO_p (PS_b254 (A := A) rfl hAl rfl rfl) ?_
              refine WO_buildSlice1 Hvac.runUnderlying93 Hvac.sizeOf254 Hvac.zeroValue254 rfl (by first | omega | assumption | rfl | decide | exact Nat.le_refl _ | (simp only [size_ic, Value.cells]; omega) | (simp; omega) | simp) (by decide) (by decide) ?_
              refine WO_app (YTp.mk A (kp, kn, kc) (vp, vn, vc)) ap_YT (BL.ext hBL6 (by repeat (first | assumption | exact Ext.refl _ | refine Ext.alloc ?_ _ | refine Ext.drew ?_ | refine Ext.setB ?_ (by first | omega | (simp only [size_alloc, size_setB, size_drew]; omega)) _ | exact Ext.trans (by assumption) (by assumption) | refine Ext.trans ?_ (by assumption)))) (by repeat (first | assumption | exact Ext.refl _ | refine Ext.alloc ?_ _ | refine Ext.drew ?_ | refine Ext.setB ?_ (by first | omega | (simp only [size_alloc, size_setB, size_drew]; omega)) _ | exact Ext.trans (by assumption) (by assumption) | refine Ext.trans ?_ (by assumption))) (fm2 (by first | omega | (simp only [size_alloc, size_setB, size_drew]; omega)) (by first | omega | (simp only [size_alloc, size_setB, size_drew]; omega))) (by omega) hKVl (Hb.newY _ _) rfl rfl ?_
              intro soA wA hBA hEA hkA hzA
              try simp only [size_alloc, size_setB, size_drew] at hzA
              have hb5_A := hkA b5 _ (by simp) (Hb.mk (Hb.h (by repeat (first | assumption | exact Hb.newY _ _ | refine Hb.alloc ?_ | refine Hb.drew ?_ | refine Hb.ext (by assumption) ?_ | exact Hb.setSameL (by first | omega | (simp only [size_alloc, size_setB, size_drew]; omega)) | exact Hb.setSame (by assumption) | refine Hb.set (by first | omega | (simp only [size_alloc, size_setB, size_drew]; omega)) ?_ ))) : Hb _ b5 (.cells (ic .u8 A) 25 (0, 0)))
              have hb11_A := hkA b11 _ (by simp) (Hb.mk (Hb.h (by repeat (first | assumption | exact Hb.newY _ _ | refine Hb.alloc ?_ | refine Hb.drew ?_ | refine Hb.ext (by assumption) ?_ | exact Hb.setSameL (by first | omega | (simp only [size_alloc, size_setB, size_drew]; omega)) | exact Hb.setSame (by assumption) | refine Hb.set (by first | omega | (simp only [size_alloc, size_setB, size_drew]; omega)) ?_ ))) : Hb _ b11 (.cells (encYT x2).toArray 254 (0, 0)))
              refine WO_p (PS_assign_slice rfl) ?_
              refine WO_nil ?_
              refine thn_normal ?_
              refine W_region rfl ?_
              refine WO_p (PS_assign_bool rfl) ?_
              refine WO_nil ?_
              refine thn_normal ?_
              refine ⟨soA, K ++ [(YTp.mk A (kp, kn, kc) (vp, vn, vc))], m ++ [(A, k, v)], ?_, by simp, hKm.snoc ⟨rfl, hA, hk, hv, zk, zv⟩, hBA, ⟨rfl, rfl, rfl, rfl, rfl, ?_, rfl, ?_, rfl, rfl, rfl, trivial⟩, hEA, hb5_A, hb11_A⟩; (simp [hlaid, hbf]); (show Value.bool _ = _; simp [hlaid, hbf]); (show Value.bool _ = _; first | rfl | (rw [hsame]))
            · have hb16p := hb16.h; try simp only [al_ete, al_dfn, Bool.not_eq_true', Bool.not_eq_false', al_ne, Bool.not_not, al_nn] at hb16p
              have hb43 : yless A x2.addr = false := hb16p
              refine WO_guardT rfl rfl hb16.h ?_
              refine WO_loadA _ Hvac.isAgg25 Hvac.sizeOf25 rfl (Hb.h (by repeat (first | assumption | exact Hb.newY _ _ | refine Hb.alloc ?_ | refine Hb.drew ?_ | refine Hb.ext (by assumption) ?_ | exact Hb.setSameL (by first | omega | (simp only [size_alloc, size_setB, size_drew]; omega)) | exact Hb.setSame (by assumption) | refine Hb.set (by first | omega | (simp only [size_alloc, size_setB, size_drew]; omega)) ?_ ))) (by first | omega | assumption | rfl | decide | exact Nat.le_refl _ | (simp only [size_ic, Value.cells]; omega) | (simp; omega) | simp) (Xt.h (by first | assumption | exact Xt.whole rfl rfl | exact Xt.whole rfl (by assumption) | exact Xt.whole rfl (by simp only [size_ic, Value.cells]; omega) | exact ⟨rfl⟩)) ?_
              refine WO_guardT rfl rfl hb16.h ?_
              refine WO_p (PS_fieldAddr 0 Hvac.runUnderlying254 rfl Hvac.sizeOf25 rfl rfl) ?_
              refine WO_guardT rfl rfl hb16.h ?_
              refine WO_loadA _ Hvac.isAgg25 Hvac.sizeOf25 rfl (Hb.h (by repeat (first | assumption | exact Hb.newY _ _ | refine Hb.alloc ?_ | refine Hb.drew ?_ | refine Hb.ext (by assumption) ?_ | exact Hb.setSameL (by first | omega | (simp only [size_alloc, size_setB, size_drew]; omega)) | exact Hb.setSame (by assumption) | refine Hb.set (by first | omega | (simp only [size_alloc, size_setB, size_drew]; omega)) ?_ ))) (by first | omega | assumption | rfl | decide | exact Nat.le_refl _ | (simp only [size_ic, Value.cells]; omega) | (simp; omega) | simp) (Xt.h (by first | assumption | exact Xt.whole rfl rfl | exact Xt.whole rfl (by assumption) | exact Xt.whole rfl (by simp only [size_ic, Value.cells]; omega) | exact ⟨rfl⟩)) ?_
              refine WO_guardT rfl rfl hb16.h ?_
              refine WO_p (PS_eqlA Hvac.underlying25 Hvac.underlying5 Hvac.sizeOf5 Hvac.eqGuardType25 rfl rfl (by first | omega | assumption | rfl | decide | exact Nat.le_refl _ | (simp only [size_ic, Value.cells]; omega) | (simp; omega) | simp) (by first | omega | assumption | rfl | decide | exact Nat.le_refl _ | (simp only [size_ic, Value.cells]; omega) | (simp; omega) | simp)) ?_
              refine WO_guardT rfl rfl hb16.h ?_
              refine WO_p (PS_move_bool rfl) ?_
              refine WO_if (t := 50) rfl (fun hb18 => ?_) (fun hb18 => ?_)
              · have hb18p := hb18.h; try simp only [al_ete, al_dfn, Bool.not_eq_true', Bool.not_eq_false', al_ne, Bool.not_not, al_nn] at hb18p
                have hb50 : A = x2.addr := hb18p
                refine WO_guardT rfl rfl hb18.h ?_
                refine WO_p (PS_move_slice rfl) ?_
                refine WO_guardT rfl rfl hb18.h ?_
                refine WO_p (PS_fieldAddr 20 Hvac.runUnderlying254 rfl Hvac.sizeOf92 rfl rfl) ?_
                refine WO_guardT rfl rfl hb18.h ?_
                refine WO_load (.slice _ _ _) Hvac.isAgg92 rfl (Hb.h (by repeat (first | assumption | exact Hb.newY _ _ | refine Hb.alloc ?_ | refine Hb.drew ?_ | refine Hb.ext (by assumption) ?_ | exact Hb.setSameL (by first | omega | (simp only [size_alloc, size_setB, size_drew]; omega)) | exact Hb.setSame (by assumption) | refine Hb.set (by first | omega | (simp only [size_alloc, size_setB, size_drew]; omega)) ?_ ))) (Ce.h (by first | assumption | exact ⟨rfl⟩)) ?_
                refine WO_guardT rfl rfl hb18.h ?_
                refine WO_call Hvac.call76 (by rfl) (Ret.mono (nCmp_spec (by first | exact NN.nil _ | assumption | exact NN.ext (by assumption) (by repeat (first | assumption | exact Ext.refl _ | refine Ext.alloc ?_ _ | refine Ext.drew ?_ | refine Ext.setB ?_ (by first | omega | (simp only [size_alloc, size_setB, size_drew]; omega)) _ | exact Ext.trans (by assumption) (by assumption) | refine Ext.trans ?_ (by assumption)))) (by first | exact NN.nil _ | assumption | exact NN.ext (by assumption) (by repeat (first | assumption | exact Ext.refl _ | refine Ext.alloc ?_ _ | refine Ext.drew ?_ | refine Ext.setB ?_ (by first | omega | (simp only [size_alloc, size_setB, size_drew]; omega)) _ | exact Ext.trans (by assumption) (by assumption) | refine Ext.trans ?_ (by assumption)))) (by first | assumption | omega | (rw [sz_zero]; omega)) (by first | assumption | omega | (rw [sz_zero]; omega))) ?_)
                rintro _ w76_18 ⟨hE76_18, rfl⟩
                have hz76_18 := hE76_18.1
                try simp only [size_alloc, size_setB, size_drew] at hz76_18
                refine WO_guardT rfl rfl hb18.h ?_
                refine WO_p (PS_lss rfl rfl) ?_
                refine WO_guardT rfl rfl hb16.h ?_
                refine WO_p (PS_pickT rfl hb18.h rfl) ?_
                refine WO_guardT rfl rfl hb11.h ?_
                refine WO_p (PS_pickF rfl hb16.h rfl) ?_
                refine WO_p (PS_pickT rfl hb11.h rfl) ?_
                refine WO_nil ?_
                refine thn_normal ?_
                refine W_if rfl (fun hb21 => ?_) (fun hb21 => ?_)
                · have hb21p := hb21.h; try simp only [al_ete, al_dfn, Bool.not_eq_true', Bool.not_eq_false', al_ne, Bool.not_not, al_nn] at hb21p
                  have hbf : ytIns A k y2 = true := by unfold ytIns; rw [hsame, hadx, hb43]; simp [hb50]; exact cmpI_lt.1 hb21p
                  refine W_seq ?_
                  refine W_region rfl ?_
                  refine WO_p (PS_move_slice rfl) ?_
                  refine WO_loadA _ Hvac.isAgg25 Hvac.sizeOf25 rfl (Hb.h (by repeat (first | assumption | exact Hb.newY _ _ | refine Hb.alloc ?_ | refine Hb.drew ?_ | refine Hb.ext (by assumption) ?_ | exact Hb.setSameL (by first | omega | (simp only [size_alloc, size_setB, size_drew]; omega)) | exact Hb.setSame (by assumption) | refine Hb.set (by first | omega | (simp only [size_alloc, size_setB, size_drew]; omega)) ?_ ))) (by first | omega | assumption | rfl | decide | exact Nat.le_refl _ | (simp only [size_ic, Value.cells]; omega) | (simp; omega) | simp) (Xt.h (by first | assumption | exact Xt.whole rfl rfl | exact Xt.whole rfl (by assumption) | exact Xt.whole rfl (by simp only [size_ic, Value.cells]; omega) | exact ⟨rfl⟩)) ?_
                  refine WO_p (PS_move_slice rfl) ?_
                  refine WO_p (PS_move_slice rfl) ?_
                  refine WO_p (PS_b254 (A := A) rfl hAl rfl rfl) ?_
                  refine WO_buildSlice1 Hvac.runUnderlying93 Hvac.sizeOf254 Hvac.zeroValue254 rfl (by first | omega | assumption | rfl | decide | exact Nat.le_refl _ | (simp only [size_ic, Value.cells]; omega) | (simp; omega) | simp) (by decide) (by decide) ?_
                  refine WO_app (YTp.mk A (kp, kn, kc) (vp, vn, vc)) ap_YT (BL.ext hBL6 (by repeat (first | assumption | exact Ext.refl _ | refine Ext.alloc ?_ _ | refine Ext.drew ?_ | refine Ext.setB ?_ (by first | omega | (simp only [size_alloc, size_setB, size_drew]; omega)) _ | exact Ext.trans (by assumption) (by assumption) | refine Ext.trans ?_ (by assumption)))) (by repeat (first | assumption | exact Ext.refl _ | refine Ext.alloc ?_ _ | refine Ext.drew ?_ | refine Ext.setB ?_ (by first | omega | (simp only [size_alloc, size_setB, size_drew]; omega)) _ | exact Ext.trans (by assumption) (by assumption) | refine Ext.trans ?_ (by assumption))) (fm2 (by first | omega | (simp only [size_alloc, size_setB, size_drew]; omega)) (by first | omega | (simp only [size_alloc, size_setB, size_drew]; omega))) (by omega) hKVl (Hb.newY _ _) rfl rfl ?_
                  intro soA wA hBA hEA hkA hzA
                  try simp only [size_alloc, size_setB, size_drew] at hzA
                  have hb5_A := hkA b5 _ (by simp) (Hb.mk (Hb.h (by repeat (first | assumption | exact Hb.newY _ _ | refine Hb.alloc ?_ | refine Hb.drew ?_ | refine Hb.ext (by assumption) ?_ | exact Hb.setSameL (by first | omega | (simp only [size_alloc, size_setB, size_drew]; omega)) | exact Hb.setSame (by assumption) | refine Hb.set (by first | omega | (simp only [size_alloc, size_setB, size_drew]; omega)) ?_ ))) : Hb _ b5 (.cells (ic .u8 A) 25 (0, 0)))
                  have hb11_A := hkA b11 _ (by simp) (Hb.mk (Hb.h (by repeat (first | assumption | exact Hb.newY _ _ | refine Hb.alloc ?_ | refine Hb.drew ?_ | refine Hb.ext (by assumption) ?_ | exact Hb.setSameL (by first | omega | (simp only [size_alloc, size_setB, size_drew]; omega)) | exact Hb.setSame (by assumption) | refine Hb.set (by first | omega | (simp only [size_alloc, size_setB, size_drew]; omega)) ?_ ))) : Hb _ b11 (.cells (encYT x2).toArray 254 (0, 0)))
                  refine WO_p (PS_assign_slice rfl) ?_
                  refine WO_nil ?_
                  refine thn_normal ?_
                  refine W_region rfl ?_
                  refine WO_p (PS_assign_bool rfl) ?_
                  refine WO_nil ?_
                  refine thn_normal ?_
                  refine ⟨soA, K ++ [(YTp.mk A (kp, kn, kc) (vp, vn, vc))], m ++ [(A, k, v)], ?_, by simp, hKm.snoc ⟨rfl, hA, hk, hv, zk, zv⟩, hBA, ⟨rfl, rfl, rfl, rfl, rfl, ?_, rfl, ?_, rfl, rfl, rfl, trivial⟩, hEA, hb5_A, hb11_A⟩; (simp [hlaid, hbf]); (show Value.bool _ = _; simp [hlaid, hbf]); (show Value.bool _ = _; first | rfl | (rw [hsame]))
                · have hb21p := hb21.h; try simp only [al_ete, al_dfn, Bool.not_eq_true', Bool.not_eq_false', al_ne, Bool.not_not, al_nn] at hb21p
                  have hbf : ytIns A k y2 = false := by unfold ytIns; rw [hsame, hadx, hb43]; simp [hb50]; exact Nat.le_of_not_lt fun h9 => hb21p (cmpI_lt.2 h9)
                  refine W_skip ?_
                  refine thn_normal ?_
                  refine ⟨so, K, m, ?_, by omega, hKm, hBL6.ext (by repeat (first | assumption | exact Ext.refl _ | refine Ext.alloc ?_ _ | refine Ext.drew ?_ | refine Ext.setB ?_ (by first | omega | (simp only [size_alloc, size_setB, size_drew]; omega)) _ | exact Ext.trans (by assumption) (by assumption) | refine Ext.trans ?_ (by assumption))), ⟨rfl, rfl, rfl, rfl, rfl, ?_, rfl, ?_, rfl, rfl, rfl, trivial⟩, (by repeat (first | assumption | exact Ext.refl _ | refine Ext.alloc ?_ _ | refine Ext.drew ?_ | refine Ext.setB ?_ (by first | omega | (simp only [size_alloc, size_setB, size_drew]; omega)) _ | exact Ext.trans (by assumption) (by assumption) | refine Ext.trans ?_ (by assumption))), Hb.mk (Hb.h (by repeat (first | assumption | exact Hb.newY _ _ | refine Hb.alloc ?_ | refine Hb.drew ?_ | refine Hb.ext (by assumption) ?_ | exact Hb.setSameL (by first | omega | (simp only [size_alloc, size_setB, size_drew]; omega)) | exact Hb.setSame (by assumption) | refine Hb.set (by first | omega | (simp only [size_alloc, size_setB, size_drew]; omega)) ?_ ))), Hb.mk (Hb.h (by repeat (first | assumption | exact Hb.newY _ _ | refine Hb.alloc ?_ | refine Hb.drew ?_ | refine Hb.ext (by assumption) ?_ | exact Hb.setSameL (by first | omega | (simp only [size_alloc, size_setB, size_drew]; omega)) | exact Hb.setSame (by assumption) | refine Hb.set (by first | omega | (simp only [size_alloc, size_setB, size_drew]; omega)) ?_ )))⟩; (simp [hlaid, hbf]); (show Value.bool _ = _; simp [hlaid, hbf]); (show Value.bool _ = _; first | rfl | (rw [hsame]))
              · have hb18p := hb18.h; try simp only [al_ete, al_dfn, Bool.not_eq_true', Bool.not_eq_false', al_ne, Bool.not_not, al_nn] at hb18p
                have hb50 : A ≠ x2.addr := hb18p
                have hbf : ytIns A k y2 = false := by unfold ytIns; rw [hsame, hadx, hb43]; simp [hb50]
                refine WO_guardF rfl rfl hb18.h ?_
                refine WO_guardF rfl rfl hb18.h ?_
                refine WO_guardF rfl rfl hb18.h ?_
                refine WO_guardF rfl rfl hb18.h ?_
                refine WO_guardF rfl rfl hb18.h ?_
                refine WO_guardT rfl rfl hb16.h ?_
                refine WO_p (PS_pickF rfl hb18.h rfl) ?_
                refine WO_guardT rfl rfl hb11.h ?_
                refine WO_p (PS_pickF rfl hb16.h rfl) ?_
                refine WO_p (PS_pickT rfl hb11.h rfl) ?_
                refine WO_nil ?_
                refine thn_normal ?_
                refine W_condF rfl rfl ?_
                refine W_skip ?_
                refine thn_normal ?_
                refine ⟨so, K, m, ?_, by omega, hKm, hBL6.ext (by repeat (first | assumption | exact Ext.refl _ | refine Ext.alloc ?_ _ | refine Ext.drew ?_ | refine Ext.setB ?_ (by first | omega | (simp only [size_alloc, size_setB, size_drew]; omega)) _ | exact Ext.trans (by assumption) (by assumption) | refine Ext.trans ?_ (by assumption))), ⟨rfl, rfl, rfl, rfl, rfl, ?_, rfl, ?_, rfl, rfl, rfl, trivial⟩, (by repeat (first | assumption | exact Ext.refl _ | refine Ext.alloc ?_ _ | refine Ext.drew ?_ | refine Ext.setB ?_ (by first | omega | (simp only [size_alloc, size_setB, size_drew]; omega)) _ | exact Ext.trans (by assumption) (by assumption) | refine Ext.trans ?_ (by assumption))), Hb.mk (Hb.h (by repeat (first | assumption | exact Hb.newY _ _ | refine Hb.alloc ?_ | refine Hb.drew ?_ | refine Hb.ext (by assumption) ?_ | exact Hb.setSameL (by first | omega | (simp only [size_alloc, size_setB, size_drew]; omega)) | exact Hb.setSame (by assumption) | refine Hb.set (by first | omega | (simp only [size_alloc, size_setB, size_drew]; omega)) ?_ ))), Hb.mk (Hb.h (by repeat (first | assumption | exact Hb.newY _ _ | refine Hb.alloc ?_ | refine Hb.drew ?_ | refine Hb.ext (by assumption) ?_ | exact Hb.setSameL (by first | omega | (simp only [size_alloc, size_setB, size_drew]; omega)) | exact Hb.setSame (by assumption) | refine Hb.set (by first | omega | (simp only [size_alloc, size_setB, size_drew]; omega)) ?_ )))⟩; (simp [hlaid, hbf]); (show Value.bool _ = _; simp [hlaid, hbf]); (show Value.bool _ = _; first | rfl | (rw [hsame]))
        · have hb11p := hb11.h; try simp only [al_ete, al_dfn, Bool.not_eq_true', Bool.not_eq_false', al_ne, Bool.not_not, al_nn] at hb11p
          have hlaid : laid = true := by simpa using hb11p
          have hbf : True := trivial
          refine WO_guardF rfl rfl hb11.h ?_
          refine WO_guardF rfl rfl hb11.h ?_
          refine WO_guardU rfl rfl ?_
          refine WO_guardU rfl rfl ?_
          refine WO_guardU rfl rfl ?_
          refine WO_guardU rfl rfl ?_
          refine WO_guardF rfl rfl hb11.h ?_
          refine WO_guardF rfl rfl hb11.h ?_
          refine WO_guardU rfl rfl ?_
          refine WO_guardU rfl rfl ?_
          refine WO_guardU rfl rfl ?_
          refine WO_guardU rfl rfl ?_
          refine WO_guardU rfl rfl ?_
          refine WO_guardU rfl rfl ?_
          refine WO_guardU rfl rfl ?_
          refine WO_guardU rfl rfl ?_
          refine WO_guardU rfl rfl ?_
          refine WO_guardU rfl rfl ?_
          refine WO_guardU rfl rfl ?_
          refine WO_guardF rfl rfl hb11.h ?_
          refine WO_p (PS_pickF rfl hb11.h rfl) ?_
          refine WO_nil ?_
          refine thn_normal ?_
          refine W_condF rfl rfl ?_
          refine W_skip ?_
          refine thn_normal ?_
          refine ⟨so, K, m, ?_, by omega, hKm, hBL6.ext (by repeat (first | assumption | exact Ext.refl _ | refine Ext.alloc ?_ _ | refine Ext.drew ?_ | refine Ext.setB ?_ (by first | omega | (simp only [size_alloc, size_setB, size_drew]; omega)) _ | exact Ext.trans (by assumption) (by assumption) | refine Ext.trans ?_ (by assumption))), ⟨rfl, rfl, rfl, rfl, rfl, ?_, rfl, ?_, rfl, rfl, rfl, trivial⟩, (by repeat (first | assumption | exact Ext.refl _ | refine Ext.alloc ?_ _ | refine Ext.drew ?_ | refine Ext.setB ?_ (by first | omega | (simp only [size_alloc, size_setB, size_drew]; omega)) _ | exact Ext.trans (by assumption) (by assumption) | refine Ext.trans ?_ (by assumption))), Hb.mk (Hb.h (by repeat (first | assumption | exact Hb.newY _ _ | refine Hb.alloc ?_ | refine Hb.drew ?_ | refine Hb.ext (by assumption) ?_ | exact Hb.setSameL (by first | omega | (simp only [size_alloc, size_setB, size_drew]; omega)) | exact Hb.setSame (by assumption) | refine Hb.set (by first | omega | (simp only [size_alloc, size_setB, size_drew]; omega)) ?_ ))), Hb.mk (Hb.h (by repeat (first | assumption | exact Hb.newY _ _ | refine Hb.alloc ?_ | refine Hb.drew ?_ | refine Hb.ext (by assumption) ?_ | exact Hb.setSameL (by first | omega | (simp only [size_alloc, size_setB, size_drew]; omega)) | exact Hb.setSame (by assumption) | refine Hb.set (by first | omega | (simp only [size_alloc, size_setB, size_drew]; omega)) ?_ )))⟩; (simp [hlaid, hbf]); (show Value.bool _ = _; simp [hlaid, hbf]); (show Value.bool _ = _; first | rfl | (rw [hsame]))
      · rintro ρ5 w5 ⟨so2, K2, m2, hm2, hK2, hKm2, hBL5, hFr5, hE5, hb55, hb115⟩
        refine W_env _ hFr5 ?_
        have hz5 := hE5.1
        have hb11l5 := hb115.lt
        have hb5l5 := hb55.lt
        refine W_seq ?_
        refine W_region rfl ?_
        refine WO_p (PS_move_bool rfl) ?_
        refine WO_p (PS_not rfl) ?_
        refine WO_nil ?_
        refine thn_normal ?_
        refine W_if rfl (fun hb24 => ?_) (fun hb24 => ?_)
        · have hb24p := hb24.h; try simp only [al_ete, al_dfn, Bool.not_eq_true', Bool.not_eq_false', al_ne, Bool.not_not, al_nn] at hb24p
          have hne : ytSame A k y2 = false := by simpa using hb24p
          refine W_region rfl ?_
          refine WO_p (PS_move_slice rfl) ?_
          refine WO_loadA _ Hvac.isAgg254 Hvac.sizeOf254 rfl (Hb.h (by repeat (first | assumption | exact Hb.newY _ _ | refine Hb.alloc ?_ | refine Hb.drew ?_ | refine Hb.ext (by assumption) ?_ | exact Hb.setSameL (by first | omega | (simp only [size_alloc, size_setB, size_drew]; omega)) | exact Hb.setSame (by assumption) | refine Hb.set (by first | omega | (simp only [size_alloc, size_setB, size_drew]; omega)) ?_ ))) (by first | omega | assumption | rfl | decide | exact Nat.le_refl _ | (simp only [size_ic, Value.cells]; omega) | (simp; omega) | simp) (Xt.h (by first | assumption | exact Xt.whole rfl rfl | exact Xt.whole rfl (by assumption) | exact Xt.whole rfl (by simp only [size_ic, Value.cells]; omega) | exact ⟨rfl⟩)) ?_
          refine WO_buildSlice1 Hvac.runUnderlying93 Hvac.sizeOf254 Hvac.zeroValue254 rfl (by first | omega | assumption | rfl | decide | exact Nat.le_refl _ | (simp only [size_ic, Value.cells]; omega) | (simp; omega) | simp) (by decide) (by decide) ?_
          refine WO_app x2 ap_YT (BL.ext hBL5 (by repeat (first | assumption | exact Ext.refl _ | refine Ext.alloc ?_ _ | refine Ext.drew ?_ | refine Ext.setB ?_ (by first | omega | (simp only [size_alloc, size_setB, size_drew]; omega)) _ | exact Ext.trans (by assumption) (by assumption) | refine Ext.trans ?_ (by assumption)))) (by repeat (first | assumption | exact Ext.refl _ | refine Ext.alloc ?_ _ | refine Ext.drew ?_ | refine Ext.setB ?_ (by first | omega | (simp only [size_alloc, size_setB, size_drew]; omega)) _ | exact Ext.trans (by assumption) (by assumption) | refine Ext.trans ?_ (by assumption))) (fm2 (by first | omega | (simp only [size_alloc, size_setB, size_drew]; omega)) (by first | omega | (simp only [size_alloc, size_setB, size_drew]; omega))) (by omega) hxE2 (Hb.newY _ _) rfl rfl ?_
          intro so6 w6 hB6 hE6 hk6 hz6
          try simp only [size_alloc, size_setB, size_drew] at hz6
          have hb5_6 := hk6 b5 _ (by simp) (Hb.mk (Hb.h (by repeat (first | assumption | exact Hb.newY _ _ | refine Hb.alloc ?_ | refine Hb.drew ?_ | refine Hb.ext (by assumption) ?_ | exact Hb.setSameL (by first | omega | (simp only [size_alloc, size_setB, size_drew]; omega)) | exact Hb.setSame (by assumption) | refine Hb.set (by first | omega | (simp only [size_alloc, size_setB, size_drew]; omega)) ?_ ))) : Hb _ b5 (.cells (ic .u8 A) 25 (0, 0)))
          refine WO_p (PS_assign_slice rfl) ?_
          refine WO_nil ?_
          refine inBlk_normal ?_
          refine thn_normal ?_
          refine W_region rfl ?_
          refine WO_p (PS_add_i64n rfl rfl (by omega) (by omega)) ?_
          refine WO_p (PS_move_int rfl) ?_
          refine WO_nil ?_
          refine thn_normal ?_
          refine ⟨k3 - 1, by omega, i + 1, _, so6, K2 ++ [x2], m2 ++ [y2], by omega, ?_, hKm2.snoc hxy2, ?_, hB6.tail (by simp), ⟨rfl, rfl, rfl, rfl, rfl, rfl, rfl, rfl, congrArg (Value.int .i64) (by omega), trivial⟩, hE6, hb5_6⟩; (simp; omega); rw [← hgo, yts_go A k v laid _ i y2 hy2, hm2, hne]; simp
        · have hb24p := hb24.h; try simp only [al_ete, al_dfn, Bool.not_eq_true', Bool.not_eq_false', al_ne, Bool.not_not, al_nn] at hb24p
          have hne : ytSame A k y2 = true := by simpa using hb24p
          refine W_skip ?_
          refine inBlk_normal ?_
          refine thn_normal ?_
          refine W_region rfl ?_
          refine WO_p (PS_add_i64n rfl rfl (by omega) (by omega)) ?_
          refine WO_p (PS_move_int rfl) ?_
          refine WO_nil ?_
          refine thn_normal ?_
          refine ⟨k3 - 1, by omega, i + 1, _, so2, K2, m2, by omega, by omega, hKm2, ?_, (hBL5.ext (by repeat (first | assumption | exact Ext.refl _ | refine Ext.alloc ?_ _ | refine Ext.drew ?_ | refine Ext.setB ?_ (by first | omega | (simp only [size_alloc, size_setB, size_drew]; omega)) _ | exact Ext.trans (by assumption) (by assumption) | refine Ext.trans ?_ (by assumption)))).tail (by simp), ⟨rfl, rfl, rfl, rfl, rfl, rfl, rfl, rfl, congrArg (Value.int .i64) (by omega), trivial⟩, (by repeat (first | assumption | exact Ext.refl _ | refine Ext.alloc ?_ _ | refine Ext.drew ?_ | refine Ext.setB ?_ (by first | omega | (simp only [size_alloc, size_setB, size_drew]; omega)) _ | exact Ext.trans (by assumption) (by assumption) | refine Ext.trans ?_ (by assumption))), Hb.mk (Hb.h (by repeat (first | assumption | exact Hb.newY _ _ | refine Hb.alloc ?_ | refine Hb.drew ?_ | refine Hb.ext (by assumption) ?_ | exact Hb.setSameL (by first | omega | (simp only [size_alloc, size_setB, size_drew]; omega)) | exact Hb.setSame (by assumption) | refine Hb.set (by first | omega | (simp only [size_alloc, size_setB, size_drew]; omega)) ?_ )))⟩; rw [← hgo, yts_go A k v laid _ i y2 hy2, hm2, hne]; simp
  · have hb4p := hb4.h; try simp only [al_ete, al_dfn, Bool.not_eq_true', Bool.not_eq_false', al_ne, Bool.not_not, al_nn] at hb4p
    refine W_exit ?_
    refine thn_exit ?_
    refine thn_exit ?_
    refine inBlk_exit ?_
    refine thn_normal ?_
    refine W_seq ?_
    refine W_seq ?_
    refine W_region rfl ?_
    refine WO_p (PS_move_bool rfl) ?_
    refine WO_p (PS_not rfl) ?_
    refine WO_nil ?_
    refine thn_normal ?_
    refine W_if rfl (fun hb27 => ?_) (fun hb27 => ?_)
    · have hb27p := hb27.h; try simp only [al_ete, al_dfn, Bool.not_eq_true', Bool.not_eq_false', al_ne, Bool.not_not, al_nn] at hb27p
      have hlaid : laid = false := by simpa using hb27p
      refine W_region rfl ?_
      refine WO_p (PS_move_slice rfl) ?_
      refine WO_loadA _ Hvac.isAgg25 Hvac.sizeOf25 rfl (Hb.h (by repeat (first | assumption | exact Hb.newY _ _ | refine Hb.alloc ?_ | refine Hb.drew ?_ | refine Hb.ext (by assumption) ?_ | exact Hb.setSameL (by first | omega | (simp only [size_alloc, size_setB, size_drew]; omega)) | exact Hb.setSame (by assumption) | refine Hb.set (by first | omega | (simp only [size_alloc, size_setB, size_drew]; omega)) ?_ ))) (by first | omega | assumption | rfl | decide | exact Nat.le_refl _ | (simp only [size_ic, Value.cells]; omega) | (simp; omega) | simp) (Xt.h (by first | assumption | exact Xt.whole rfl rfl | exact Xt.whole rfl (by assumption) | exact Xt.whole rfl (by simp only [size_ic, Value.cells]; omega) | exact ⟨rfl⟩)) ?_
      refine WO_p (PS_move_slice rfl) ?_
      refine WO_p (PS_move_slice rfl) ?_
      refine WO_p (PS_b254 (A := A) rfl hAl rfl rfl) ?_
      refine WO_buildSlice1 Hvac.runUnderlying93 Hvac.sizeOf254 Hvac.zeroValue254 rfl (by first | omega | assumption | rfl | decide | exact Nat.le_refl _ | (simp only [size_ic, Value.cells]; omega) | (simp; omega) | simp) (by decide) (by decide) ?_
      refine WO_app (YTp.mk A (kp, kn, kc) (vp, vn, vc)) ap_YT (BL.ext hBL (by repeat (first | assumption | exact Ext.refl _ | refine Ext.alloc ?_ _ | refine Ext.drew ?_ | refine Ext.setB ?_ (by first | omega | (simp only [size_alloc, size_setB, size_drew]; omega)) _ | exact Ext.trans (by assumption) (by assumption) | refine Ext.trans ?_ (by assumption)))) (by repeat (first | assumption | exact Ext.refl _ | refine Ext.alloc ?_ _ | refine Ext.drew ?_ | refine Ext.setB ?_ (by first | omega | (simp only [size_alloc, size_setB, size_drew]; omega)) _ | exact Ext.trans (by assumption) (by assumption) | refine Ext.trans ?_ (by assumption))) (fm1 (by first | omega | (simp only [size_alloc, size_setB, size_drew]; omega))) (by omega) hKVl (Hb.newY _ _) rfl rfl ?_
      intro so9 w9 hB9 hE9 hk9 hz9
      try simp only [size_alloc, size_setB, size_drew] at hz9
      refine WO_p (PS_assign_slice rfl) ?_
      refine WO_nil ?_
      refine thn_normal ?_
      refine W_region rfl ?_
      refine WO_p (PS_move_ptr rfl) ?_
      refine WO_p (PS_move_slice rfl) ?_
      refine WO_p (PS_nilCheck rfl) ?_
      refine WO_p (PS_fieldAddr 5 Hvac.runUnderlying95 rfl Hvac.sizeOf93 rfl rfl) ?_
      refine WO_store1 Hvac.sizeOf93 rfl (v := (.slice _ _ _)) rfl (Hb.h (by repeat (first | assumption | exact Hb.newY _ _ | refine Hb.alloc ?_ | refine Hb.drew ?_ | refine Hb.ext (by assumption) ?_ | exact Hb.setSameL (by first | omega | (simp only [size_alloc, size_setB, size_drew]; omega)) | exact Hb.setSame (by assumption) | refine Hb.set (by first | omega | (simp only [size_alloc, size_setB, size_drew]; omega)) ?_ ))) rfl (by first | omega | assumption | rfl | decide | exact Nat.le_refl _ | (simp only [size_ic, Value.cells]; omega) | (simp; omega) | simp) rfl ?_
      refine WO_nil ?_
      first | refine bodyQ_ret0 Hvac.results210 ?_ | refine bodyQ_end0 Hvac.results210 ?_
      refine ⟨rfl, keepS (by repeat (first | assumption | exact Ext.refl _ | refine Ext.alloc ?_ _ | refine Ext.drew ?_ | refine Ext.setB ?_ (by first | omega | (simp only [size_alloc, size_setB, size_drew]; omega)) _ | exact Ext.trans (by assumption) (by assumption) | refine Ext.trans ?_ (by assumption))) _ _, (slp so9, (K ++ [(YTp.mk A (kp, kn, kc) (vp, vn, vc))]).length, slc so9), Hb.setSame (hS.ext (by repeat (first | assumption | exact Ext.refl _ | refine Ext.alloc ?_ _ | refine Ext.drew ?_ | refine Ext.setB ?_ (by first | omega | (simp only [size_alloc, size_setB, size_drew]; omega)) _ | exact Ext.trans (by assumption) (by assumption) | refine Ext.trans ?_ (by assumption)))), K ++ [(YTp.mk A (kp, kn, kc) (vp, vn, vc))], (hB9.set (Or.inr hSl) _).pl hO, ?_⟩; rw [← hgo, yts_end A k v laid l i (by omega), hlaid]; simpa using (hKm.snoc ⟨rfl, hA, hk, hv, zk, zv⟩).mono fun _ _ h => TpR.keep h (keepSO (by repeat (first | assumption | exact Ext.refl _ | refine Ext.alloc ?_ _ | refine Ext.drew ?_ | refine Ext.setB ?_ (by first | omega | (simp only [size_alloc, size_setB, size_drew]; omega)) _ | exact Ext.trans (by assumption) (by assumption) | refine Ext.trans ?_ (by assumption))) hSo _)
    · have hb27p := hb27.h; try simp only [al_ete, al_dfn, Bool.not_eq_true', Bool.not_eq_false', al_ne, Bool.not_not, al_nn] at hb27p
      have hlaid : laid = true := by simpa using hb27p
      refine W_skip ?_
      refine thn_normal ?_
      refine W_region rfl ?_
      refine WO_p (PS_move_ptr rfl) ?_
      refine WO_p (PS_move_slice rfl) ?_
      refine WO_p (PS_nilCheck rfl) ?_
      refine WO_p (PS_fieldAddr 5 Hvac.runUnderlying95 rfl Hvac.sizeOf93 rfl rfl) ?_
      refine WO_store1 Hvac.sizeOf93 rfl (v := (.slice _ _ _)) rfl (Hb.h (by repeat (first | assumption | exact Hb.newY _ _ | refine Hb.alloc ?_ | refine Hb.drew ?_ | refine Hb.ext (by assumption) ?_ | exact Hb.setSameL (by first | omega | (simp only [size_alloc, size_setB, size_drew]; omega)) | exact Hb.setSame (by assumption) | refine Hb.set (by first | omega | (simp only [size_alloc, size_setB, size_drew]; omega)) ?_ ))) rfl (by first | omega | assumption | rfl | decide | exact Nat.le_refl _ | (simp only [size_ic, Value.cells]; omega) | (simp; omega) | simp) rfl ?_
      refine WO_nil ?_
      first | refine bodyQ_ret0 Hvac.results210 ?_ | refine bodyQ_end0 Hvac.results210 ?_
      refine ⟨rfl, keepS (by repeat (first | assumption | exact Ext.refl _ | refine Ext.alloc ?_ _ | refine Ext.drew ?_ | refine Ext.setB ?_ (by first | omega | (simp only [size_alloc, size_setB, size_drew]; omega)) _ | exact Ext.trans (by assumption) (by assumption) | refine Ext.trans ?_ (by assumption))) _ _, (slp so, (K).length, slc so), Hb.setSame (hS.ext (by repeat (first | assumption | exact Ext.refl _ | refine Ext.alloc ?_ _ | refine Ext.drew ?_ | refine Ext.setB ?_ (by first | omega | (simp only [size_alloc, size_setB, size_drew]; omega)) _ | exact Ext.trans (by assumption) (by assumption) | refine Ext.trans ?_ (by assumption)))), K, (hBL.set (Or.inr hSl) _).pl hO, ?_⟩; rw [← hgo, yts_end A k v laid l i (by omega), hlaid]; simpa using (hKm).mono fun _ _ h => TpR.keep h (keepSO (by repeat (first | assumption | exact Ext.refl _ | refine Ext.alloc ?_ _ | refine Ext.drew ?_ | refine Ext.setB ?_ (by first | omega | (simp only [size_alloc, size_setB, size_drew]; omega)) _ | exact Ext.trans (by assumption) (by assumption) | refine Ext.trans ?_ (by assumption))) hSo _)

end Go.Proofs.YgvacwGreat
