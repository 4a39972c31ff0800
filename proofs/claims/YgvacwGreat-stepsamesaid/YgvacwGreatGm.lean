import Derived.Test.YgvacwGreatGl
namespace Go.Proofs.YgvacwGreat
set_option linter.unusedSimpArgs false
set_option linter.unusedVariables false
def ydestF (code : List Int) (t : Nat) : Nat → Nat → Bool
  | 0, _ => false
  | k + 1, i => if i < code.length then (if i = t then decide (code.getD i 0 = 91) else ydestF code t k (i + (1 + (immOf (code.getD i 0)).toNat))) else false
def ydest (code : List Int) (t : Nat) : Bool := ydestF code t (code.length + 1) 0
theorem ydestF_end {code : List Int} {t k i : Nat} (h : ¬ i < code.length) : ydestF code t (k + 1) i = false := by rw [ydestF, if_neg h]
theorem ydestF_at {code : List Int} {t k i : Nat} (h : i < code.length) (ht : i = t) : ydestF code t (k + 1) i = decide (code.getD i 0 = 91) := by rw [ydestF, if_pos h, if_pos ht]
theorem ydestF_go {code : List Int} {t k i : Nat} (h : i < code.length) (ht : ¬ i = t) : ydestF code t (k + 1) i = ydestF code t k (i + (1 + (immOf (code.getD i 0)).toNat)) := by rw [ydestF, if_pos h, if_neg ht]
theorem NN_one [Om] {w : World} {b : Nat} {z : Int} (hb : Hb w b (.cells (Value.int .u8 z).cells 5 (0, 0))) (h : ¬ Om.p b) (hz : 0 < z ∧ z ≤ 255) : NN w (some ⟨b, 0, none⟩, 1, 1) z.toNat := by
  have e : dg z.toNat = [z] := by
    rw [dg_pos (by omega), show z.toNat / 256 = 0 by omega, dg_zero]
    congr 1
    omega
  show PB w _ (dg z.toNat)
  rw [e]
  exact PB.newY hb h (by intro x hx; rw [List.mem_singleton.1 hx]; omega) rfl

set_option maxRecDepth 10000 in
set_option maxHeartbeats 4000000 in
theorem yIsDest_spec [Om] (w : World) (hO : OmB w) (p : Option Addr) (n cp : Nat) (L : List Int) (hs : PB w (p, n, cp) L) (hn : n ≤ 1000000) (ap : Option Addr) (an acY a : Nat) (ha : NN w (ap, an, acY) a) (za : sz a ≤ 1000) : Ret Hvac.prog 114 #[.slice p n cp, .slice ap an acY] w fun u w' => Ext w w' ∧ u = .bool (ydest L a) := by
  have hL := hs.len
  dsimp only at hL
  refine Ret_of_W Hvac.func114 rfl rfl ?_
  refine W_seq ?_
  refine W_region rfl ?_
  refine WO_p (PS_assign_bool rfl) ?_
  refine WO_nil ?_
  refine thn_normal ?_
  refine W_seq ?_
  refine W_region rfl ?_
  refine WO_p (PS_assign_slice rfl) ?_
  refine WO_nil ?_
  refine thn_normal ?_
  refine W_seq ?_
  refine W_seq ?_
  refine W_region rfl ?_
  refine WO_p (PS_assign_int rfl) ?_
  refine WO_nil ?_
  refine thn_normal ?_
  refine W_block ?_
  refine W_loopN (fun k9 ρ w' => ∃ (i : Nat) (s5 : SV), n - i ≤ k9 ∧ i ≤ n + 33 ∧ ydestF L a (k9 + 1) i = ydest L a ∧ NN w' s5 i ∧ Fr [(0, .slice p n cp), (1, .slice ap an acY), (5, .slice s5.1 s5.2.1 s5.2.2), (6, .int .i64 i)] ρ ∧ Ext w w') n ?_ ?_
  · exact ⟨0, (none, 0, 0), by omega, by omega, by rw [← hL]; rfl, NN.nil _, ⟨rfl, rfl, rfl, rfl, trivial⟩, (by repeat (first | assumption | exact Ext.refl _ | refine Ext.alloc ?_ _ | refine Ext.drew ?_ | refine Ext.setB ?_ (by first | omega | (simp only [size_alloc, size_setB, size_drew]; omega)) _ | refine Ext.trans ?_ (by assumption)))⟩
  intro k2 ρ2 w2 hI2
  obtain ⟨i, s5, hik, hib, hD, hN5, hFr2, hE2⟩ := hI2
  refine W_env _ hFr2 ?_
  have hz2 := hE2.1
  refine W_seq ?_
  refine W_seq ?_
  refine W_region rfl ?_
  refine WO_p (PS_move_int rfl) ?_
  refine WO_p (PS_move_slice rfl) ?_
  refine WO_p (PS_lenS Hvac.runUnderlying32 rfl) ?_
  refine WO_p (PS_lss rfl rfl) ?_
  refine WO_nil ?_
  refine thn_normal ?_
  refine W_if rfl (fun hb2 => ?_) (fun hb2 => ?_)
  · have hb2p := hb2.h; try simp only [al_ete, al_dfn, Bool.not_eq_true', Bool.not_eq_false', al_ne, Bool.not_not, al_nn] at hb2p
    obtain ⟨b, ob, rb, Tb, fzb, hp, hb, hrs, hat⟩ := AB.at_ (PB.ab (PB.ext hs hE2)) (by omega)
    subst hp
    have hce := hat i (by omega)
    have hob : 0 ≤ L.getD i 0 ∧ L.getD i 0 ≤ 255 := gd_by hs.by_ i
    have him := immOf_bd (L.getD i 0)
    have hsim : sz (1 + immOf (L.getD i 0)).toNat ≤ 1000000 := Nat.le_trans (sz_le (n := (1 + immOf (L.getD i 0)).toNat) (k := 1) (Nat.lt_of_le_of_lt (show _ ≤ 33 by omega) (by decide))) (by decide)
    have hsi : sz i ≤ 8 := sz_le (Nat.lt_of_le_of_lt (show i ≤ 2000000 by omega) (by decide))
    refine W_skip ?_
    refine thn_normal ?_
    refine W_block ?_
    refine W_seq ?_
    refine W_seq ?_
    refine W_region rfl ?_
    refine WO_p (PS_move_slice rfl) ?_
    refine WO_p (PS_move_slice rfl) ?_
    refine WO_call Hvac.call76 (by rfl) (Ret.mono (nCmp_spec (by first | exact NN.nil _ | assumption | exact NN.ext (by assumption) (by repeat (first | assumption | exact Ext.refl _ | refine Ext.alloc ?_ _ | refine Ext.drew ?_ | refine Ext.setB ?_ (by first | omega | (simp only [size_alloc, size_setB, size_drew]; omega)) _ | exact Ext.trans (by assumption) (by assumption) | refine Ext.trans ?_ (by assumption)))) (by first | exact NN.nil _ | assumption | exact NN.ext (by assumption) (by repeat (first | assumption | exact Ext.refl _ | refine Ext.alloc ?_ _ | refine Ext.drew ?_ | refine Ext.setB ?_ (by first | omega | (simp only [size_alloc, size_setB, size_drew]; omega)) _ | exact Ext.trans (by assumption) (by assumption) | refine Ext.trans ?_ (by assumption)))) (by first | assumption | omega | (rw [sz_zero]; omega)) (by first | assumption | omega | (rw [sz_zero]; omega))) ?_)
    rintro _ w76_2 ⟨hE76_2, rfl⟩
    have hz76_2 := hE76_2.1
    try simp only [size_alloc, size_setB, size_drew] at hz76_2
    refine WO_p (PS_eql rfl rfl) ?_
    refine WO_nil ?_
    refine thn_normal ?_
    refine W_if rfl (fun hb5 => ?_) (fun hb5 => ?_)
    · have hb5p := hb5.h; try simp only [al_ete, al_dfn, Bool.not_eq_true', Bool.not_eq_false', al_ne, Bool.not_not, al_nn] at hb5p
      rw [cmpI_eq2] at hb5p
      refine W_seq ?_
      refine W_region rfl ?_
      refine WO_p (PS_move_slice rfl) ?_
      refine WO_p (PS_move_int rfl) ?_
      refine WO_p (PS_indexS Hvac.runUnderlying32 Hvac.sizeOf5 rfl rfl (by omega) (by omega)) ?_
      refine WO_load (.int _ _) Hvac.isAgg5 rfl (Hb.h (by repeat (first | assumption | exact Hb.newY _ _ | refine Hb.alloc ?_ | refine Hb.drew ?_ | refine Hb.ext (by assumption) ?_ | exact Hb.setSameL (by first | omega | (simp only [size_alloc, size_setB, size_drew]; omega)) | exact Hb.setSame (by assumption) | refine Hb.set (by first | omega | (simp only [size_alloc, size_setB, size_drew]; omega)) ?_ ))) (Ce.h (by first | assumption | exact ⟨rfl⟩)) ?_
      refine WO_p (PS_eql rfl rfl) ?_
      refine WO_p (PS_assign_bool rfl) ?_
      refine WO_nil ?_
      refine thn_normal ?_
      refine W_ret ?_
      refine thn_ret ?_
      refine inBlk_ret ?_
      refine thn_ret ?_
      refine inBlk_ret ?_
      refine thn_ret ?_
      refine bodyQ_ret1 Hvac.results114 rfl (.bool _) rfl ?_
      first
      | exact ⟨(by repeat (first | assumption | exact Ext.refl _ | refine Ext.alloc ?_ _ | refine Ext.drew ?_ | refine Ext.setB ?_ (by first | omega | (simp only [size_alloc, size_setB, size_drew]; omega)) _ | refine Ext.trans ?_ (by assumption))), congrArg Value.bool (by rw [← hD, ydestF_at (by omega) (by assumption)])⟩
      | exact ⟨(by repeat (first | assumption | exact Ext.refl _ | refine Ext.alloc ?_ _ | refine Ext.drew ?_ | refine Ext.setB ?_ (by first | omega | (simp only [size_alloc, size_setB, size_drew]; omega)) _ | refine Ext.trans ?_ (by assumption))), congrArg Value.bool (by rw [← hD, ydestF_end (by omega)])⟩
    · have hb5p := hb5.h; try simp only [al_ete, al_dfn, Bool.not_eq_true', Bool.not_eq_false', al_ne, Bool.not_not, al_nn] at hb5p
      rw [cmpI_eq2] at hb5p
      refine W_skip ?_
      refine thn_normal ?_
      refine W_seq ?_
      refine W_region rfl ?_
      refine WO_p (PS_move_slice rfl) ?_
      refine WO_p (PS_move_int rfl) ?_
      refine WO_p (PS_indexS Hvac.runUnderlying32 Hvac.sizeOf5 rfl rfl (by omega) (by omega)) ?_
      refine WO_load (.int _ _) Hvac.isAgg5 rfl (Hb.h (by repeat (first | assumption | exact Hb.newY _ _ | refine Hb.alloc ?_ | refine Hb.drew ?_ | refine Hb.ext (by assumption) ?_ | exact Hb.setSameL (by first | omega | (simp only [size_alloc, size_setB, size_drew]; omega)) | exact Hb.setSame (by assumption) | refine Hb.set (by first | omega | (simp only [size_alloc, size_setB, size_drew]; omega)) ?_ ))) (Ce.h (by first | assumption | exact ⟨rfl⟩)) ?_
      refine WO_call Hvac.call125 (by rfl) (Ret.mono (imm_spec _ _ (by omega)) ?_)
      rintro _ w125_6 ⟨hE125_6, rfl⟩
      have hz125_6 := hE125_6.1
      try simp only [size_alloc, size_setB, size_drew] at hz125_6
      refine WO_p (PS_conv_i64n Hvac.runUnderlying5 Hvac.runUnderlying3 rfl (by omega) (by omega)) ?_
      refine WO_p (PS_add_i64n rfl rfl (by omega) (by omega)) ?_
      refine WO_p (PS_assign_int rfl) ?_
      refine WO_nil ?_
      refine thn_normal ?_
      refine W_seq ?_
      refine W_region rfl ?_
      refine WO_p (PS_move_slice rfl) ?_
      refine WO_p (PS_move_int rfl) ?_
      refine WO_p (PS_conv_u8n Hvac.runUnderlying3 Hvac.runUnderlying5 rfl (by omega) (by omega)) ?_
      refine WO_buildSliceV (.int _ _) Hvac.runUnderlying92 Hvac.sizeOf5 Hvac.zeroValue5 rfl rfl (by decide) (by decide) ?_
      refine WO_call Hvac.call24 (by rfl) (Ret.mono (nAdd_spec (OmB.ext hO (by repeat (first | assumption | exact Ext.refl _ | refine Ext.alloc ?_ _ | refine Ext.drew ?_ | refine Ext.setB ?_ (by first | omega | (simp only [size_alloc, size_setB, size_drew]; omega)) _ | exact Ext.trans (by assumption) (by assumption) | refine Ext.trans ?_ (by assumption)))) (by first | exact NN.nil _ | assumption | exact NN.ext (by assumption) (by repeat (first | assumption | exact Ext.refl _ | refine Ext.alloc ?_ _ | refine Ext.drew ?_ | refine Ext.setB ?_ (by first | omega | (simp only [size_alloc, size_setB, size_drew]; omega)) _ | exact Ext.trans (by assumption) (by assumption) | refine Ext.trans ?_ (by assumption)))) (NN_one (Hb.newY _ _) ((OmB.ext hO (by repeat (first | assumption | exact Ext.refl _ | refine Ext.alloc ?_ _ | refine Ext.drew ?_ | refine Ext.setB ?_ (by first | omega | (simp only [size_alloc, size_setB, size_drew]; omega)) _ | exact Ext.trans (by assumption) (by assumption) | refine Ext.trans ?_ (by assumption)))).fresh (Nat.le_refl _)) (by omega)) (by omega) hsim) ?_)
      rintro _ w9 ⟨hE9, s9, rfl, hN9⟩
      have hz9 := hE9.1
      try simp only [size_alloc, size_setB, size_drew] at hz9
      refine WO_p (PS_assign_slice rfl) ?_
      refine WO_nil ?_
      refine thn_normal ?_
      refine W_region rfl ?_
      refine WO_p (PS_move_int rfl) ?_
      refine WO_p (PS_move_int rfl) ?_
      refine WO_p (PS_add_i64n rfl rfl (by omega) (by omega)) ?_
      refine WO_p (PS_assign_int rfl) ?_
      refine WO_nil ?_
      refine inBlk_normal ?_
      refine thn_normal ?_
      refine ⟨k2 - 1, by omega, i + (1 + (immOf (L.getD i 0)).toNat), s9, by omega, by omega, ?_, ?_, ⟨rfl, rfl, rfl, congrArg (Value.int .i64) (by omega), trivial⟩, (by repeat (first | assumption | exact Ext.refl _ | refine Ext.alloc ?_ _ | refine Ext.drew ?_ | refine Ext.setB ?_ (by first | omega | (simp only [size_alloc, size_setB, size_drew]; omega)) _ | refine Ext.trans ?_ (by assumption)))⟩
      · rw [← hD, show k2 - 1 + 1 = k2 by omega]
        exact (ydestF_go (by omega) (by assumption)).symm
      · refine NN.castY hN9 ?_
        omega
  · have hb2p := hb2.h; try simp only [al_ete, al_dfn, Bool.not_eq_true', Bool.not_eq_false', al_ne, Bool.not_not, al_nn] at hb2p
    refine W_exit ?_
    refine thn_exit ?_
    refine thn_exit ?_
    refine inBlk_exit ?_
    refine thn_normal ?_
    refine W_seq ?_
    refine W_region rfl ?_
    refine WO_p (PS_assign_bool rfl) ?_
    refine WO_nil ?_
    refine thn_normal ?_
    refine W_ret ?_
    refine bodyQ_ret1 Hvac.results114 rfl (.bool _) rfl ?_
    first
    | exact ⟨(by repeat (first | assumption | exact Ext.refl _ | refine Ext.alloc ?_ _ | refine Ext.drew ?_ | refine Ext.setB ?_ (by first | omega | (simp only [size_alloc, size_setB, size_drew]; omega)) _ | refine Ext.trans ?_ (by assumption))), congrArg Value.bool (by rw [← hD, ydestF_at (by omega) (by assumption)])⟩
    | exact ⟨(by repeat (first | assumption | exact Ext.refl _ | refine Ext.alloc ?_ _ | refine Ext.drew ?_ | refine Ext.setB ?_ (by first | omega | (simp only [size_alloc, size_setB, size_drew]; omega)) _ | refine Ext.trans ?_ (by assumption))), congrArg Value.bool (by rw [← hD, ydestF_end (by omega)])⟩

end Go.Proofs.YgvacwGreat
