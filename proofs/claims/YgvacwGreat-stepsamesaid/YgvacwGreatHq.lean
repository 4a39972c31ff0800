import Derived.Test.YgvacwGreatHp
namespace Go.Proofs.YgvacwGreat
set_option linter.unusedSimpArgs false
set_option linter.unusedVariables false
def yrlp (n : Nat) : List Int := if n = 0 then [128] else if n < 128 then [(n : Int)] else (128 + (sz n : Int)) :: (dg n).reverse
def ycr1 (ks : List Int → List Int) (A : List Int) (n : Nat) : List Int := yhaddr ks ([192 + (21 + ((yrlp n).length : Int)), 148] ++ A ++ yrlp n)
theorem dg_sz1 {n : Nat} (h : sz n = 1) : (dg n).getD 0 0 = (n : Int) ∧ n < 256 ∧ 0 < n := by
  have hn : 0 < n := by
    rcases Nat.eq_zero_or_pos n with h0 | h0
    · subst h0; rw [sz_zero] at h; omega
    · exact h0
  have h1 := lt_of_sz (n := n) (k := 1) (by omega)
  have h2 : n < 256 := by simpa using h1
  refine ⟨?_, h2, hn⟩
  rw [dg_pos (by omega), show n / 256 = 0 by omega, dg_zero]
  show ((n % 256 : Nat) : Int) = _
  omega
theorem yrlp_by {n : Nat} (h : sz n ≤ 20) : ∀ x ∈ yrlp n, 0 ≤ x ∧ x ≤ 255 := by
  intro x hx
  unfold yrlp at hx
  split at hx
  · simp at hx; omega
  · split at hx
    · simp at hx; omega
    · rcases List.mem_cons.1 hx with hx | hx
      · omega
      · exact dg_by n x (List.mem_reverse.1 hx)
theorem yrlp_len {n : Nat} (h : sz n ≤ 20) : 0 < (yrlp n).length ∧ (yrlp n).length ≤ 21 := by
  unfold yrlp
  split
  · simp
  · split
    · simp
    · simp [dg_len]; omega
theorem rlp_step {a j : Nat} (h : j < sz a) : (dg a).reverse.take (j + 1) = (dg a).reverse.take j ++ [(dg a).getD (sz a - j - 1) 0] := by
  have h1 : j < (dg a).reverse.length := by rw [List.length_reverse, dg_len]; exact h
  rw [List.take_succ_eq_append_getElem h1, List.getElem_reverse, List.getD_eq_getElem?_getD, List.getElem?_eq_getElem (by rw [dg_len]; omega)]
  simp only [Option.getD_some, dg_len]
  congr 3
  omega

set_option maxRecDepth 10000 in
set_option maxHeartbeats 4000000 in
theorem yCreate1_spec [O : Om] (w : World) (hO : OmB w) (ks : List Int → List Int) (hK : KSum ks) (A : List Int) (hA : By A 20) (ap : Option Addr) (an acY a : Nat) (ha : NN w (ap, an, acY) a) (za : sz a ≤ 20): Ret Hvac.prog 18 #[.agg (ic .u8 A), .slice ap an acY] w fun u w' => Ext w w' ∧ u = .agg (ic .u8 (ycr1 ks A a)) := by
  have hAl := hA.1
  have hcl := (yhaddr_by hK ([192 + (21 + ((yrlp a).length : Int)), 148] ++ A ++ yrlp a)).1
  obtain ⟨hyl0, hyl1⟩ := yrlp_len za
  have hyb := yrlp_by za
  refine Ret_of_W Hvac.func18 rfl rfl ?_
  refine W_seq ?_
  refine W_region rfl ?_
  refine WO_boxG (.agg _) rfl ?_
  intro b2 v2 hg2 hE2 hH2 hl2
  try simp only [size_alloc, size_setB, size_drew] at hg2
  have hzz2 := hE2.1
  try simp only [size_alloc, size_setB, size_drew] at hzz2
  refine WO_allocG Hvac.zeroValue25 ?_
  intro b4 v4 hg4 hE4 hH4 hl4
  try simp only [size_alloc, size_setB, size_drew] at hg4
  have hzz4 := hE4.1
  try simp only [size_alloc, size_setB, size_drew] at hzz4
  replace hH4 : Hb v4 b4 (.cells (ic .u8 (List.replicate 20 0)) 25 (0, 0)) := hH4
  refine WO_nil ?_
  refine thn_normal ?_
  refine W_seq ?_
  refine W_region rfl ?_
  refine WO_buildSliceV (.int _ _) Hvac.runUnderlying32 Hvac.sizeOf5 Hvac.zeroValue5 rfl rfl (by decide) (by decide) ?_
  refine WO_p (PS_assign_slice rfl) ?_
  refine WO_nil ?_
  refine thn_normal ?_
  refine W_seq ?_
  refine W_gen fun w2 hw2 => ?_
  obtain ⟨bR, hbR⟩ : ∃ bR, bR = v4.heap.size := ⟨_, rfl⟩
  rw [← hbR]
  have hbR2 : Hb w2 bR (.cells (ic .u8 [128]) 5 (0, 0)) := by rw [hw2, hbR]; exact Hb.newY _ _
  have hE2 : Ext w w2 := by rw [hw2]; exact (by repeat (first | assumption | exact Ext.refl _ | refine Ext.alloc ?_ _ | refine Ext.drew ?_ | refine Ext.setB ?_ (by first | omega | (simp only [size_alloc, size_setB, size_drew]; omega)) _ | refine Ext.trans ?_ (by assumption)))
  have hb22 : Hb w2 b2 (.cells (ic .u8 A) 25 (0, 0)) := by rw [hw2]; exact Hb.mk (Hb.h (by repeat (first | assumption | exact Hb.newY _ _ | refine Hb.alloc ?_ | refine Hb.drew ?_ | refine Hb.ext (by assumption) ?_ | exact Hb.setSameL (by first | omega | (simp only [size_alloc, size_setB, size_drew]; omega)) | exact Hb.setSame (by assumption) | refine Hb.set (by first | omega | (simp only [size_alloc, size_setB, size_drew]; omega)) ?_ )))
  have hb42 : Hb w2 b4 (.cells (ic .u8 (List.replicate 20 0)) 25 (0, 0)) := by rw [hw2]; exact Hb.mk (Hb.h (by repeat (first | assumption | exact Hb.newY _ _ | refine Hb.alloc ?_ | refine Hb.drew ?_ | refine Hb.ext (by assumption) ?_ | exact Hb.setSameL (by first | omega | (simp only [size_alloc, size_setB, size_drew]; omega)) | exact Hb.setSame (by assumption) | refine Hb.set (by first | omega | (simp only [size_alloc, size_setB, size_drew]; omega)) ?_ )))
  have hgR : w.heap.size ≤ bR := by omega
  have hne2 : bR ≠ b2 ∧ bR ≠ b4 := by omega
  clear hw2
  have hz2 := hE2.1
  have hbRl := hbR2.lt
  have hb2l := hb22.lt
  have hb4l := hb42.lt
  have hO2 : @OmB (O.add bR) w2 := OmB.add hO hz2 hbRl
  have ha2 : @NN (O.add bR) w2 (ap, an, acY) a := @NN.ext (O.add bR) _ _ _ _ (NN.om ha (O.add_le hgR)) hE2
  obtain ⟨O2, hOe⟩ : ∃ O2 : Om, O2 = O.add bR := ⟨_, rfl⟩
  rw [← hOe] at hO2 ha2
  have hR2 : (@Om.p O2) bR := by rw [hOe]; exact Or.inr rfl
  clear hOe hO ha
  have hO := hO2
  refine W_region rfl ?_
  refine WO_p (PS_move_slice rfl) ?_
  refine WO_call Hvac.call79 (by rfl) (Ret.mono (nNorm_spec (OmB.ext hO (by repeat (first | assumption | exact Ext.refl _ | refine Ext.alloc ?_ _ | refine Ext.drew ?_ | refine Ext.setB ?_ (by first | omega | (simp only [size_alloc, size_setB, size_drew]; omega)) _ | exact Ext.trans (by assumption) (by assumption) | refine Ext.trans ?_ (by assumption)))) (by first | exact NN.nil _ | assumption | exact NN.ext (by assumption) (by repeat (first | assumption | exact Ext.refl _ | refine Ext.alloc ?_ _ | refine Ext.drew ?_ | refine Ext.setB ?_ (by first | omega | (simp only [size_alloc, size_setB, size_drew]; omega)) _ | exact Ext.trans (by assumption) (by assumption) | refine Ext.trans ?_ (by assumption)))) (by first | assumption | omega | (rw [sz_zero]; omega))) ?_)
  rintro _ w6 ⟨hE6, s6, rfl, hN6⟩
  have hz6 := hE6.1
  try simp only [size_alloc, size_setB, size_drew] at hz6
  obtain ⟨pN, nN, cN⟩ := s6
  have hs6 := NN.szl hN6
  subst hs6
  dsimp only
  refine WO_p (PS_assign_slice rfl) ?_
  refine WO_nil ?_
  refine thn_normal ?_
  refine W_seqJ (fun ρ w' => ∃ (bQ cQ : Nat), Fr [(2, .pointer (some ⟨b2, 0, none⟩)), (4, .pointer (some ⟨b4, 0, none⟩)), (5, .slice (some ⟨bQ, 0, none⟩) (yrlp a).length cQ)] ρ ∧ AB w' (some ⟨bQ, 0, none⟩, (yrlp a).length, cQ) (yrlp a) ∧ Ext w w' ∧ Hb w' b2 (.cells (ic .u8 A) 25 (0, 0)) ∧ Hb w' b4 (.cells (ic .u8 (List.replicate 20 0)) 25 (0, 0))) ?_ ?_
  · skip
    refine W_seq ?_
    refine W_region rfl ?_
    refine WO_p (PS_move_slice rfl) ?_
    refine WO_p (PS_lenS Hvac.runUnderlying92 rfl) ?_
    refine WO_p (PS_eql rfl rfl) ?_
    refine WO_p (PS_move_bool rfl) ?_
    refine WO_if (t := 15) rfl (fun hb3 => ?_) (fun hb3 => ?_)
    · have hb3p := hb3.h; try simp only [al_ete, al_dfn, Bool.not_eq_true', Bool.not_eq_false', al_ne, Bool.not_not, al_nn] at hb3p
      skip
      obtain ⟨bN, rN, fzN, hpN, hoN, hbN, hrsN, hXN⟩ := PB.row hN6 (by show 0 < sz a; omega)
      dsimp only at hpN hrsN hXN
      subst hpN
      have hbNR : bN ≠ bR := fun h => hoN (h ▸ hR2)
      have hbNl := hbN.lt
      have hatN : ∀ i, i < sz a → Ce rN (0 + i * 1) (.int .u8 ((dg a).getD i 0)) := fun i hi => xt_ce1 hXN (dg_len a) hi
      obtain ⟨hd1, hd2, hd3⟩ := dg_sz1 (n := a) (by omega)
      have hce := hatN 0 (by omega)
      rw [hd1] at hce
      refine WO_guardT rfl rfl hb3.h ?_
      refine WO_p (PS_move_slice rfl) ?_
      refine WO_guardT rfl rfl hb3.h ?_
      refine WO_p (PS_indexS Hvac.runUnderlying92 Hvac.sizeOf5 rfl rfl (by omega) (by omega)) ?_
      refine WO_guardT rfl rfl hb3.h ?_
      refine WO_load (.int _ _) Hvac.isAgg5 rfl (Hb.h (by repeat (first | assumption | exact Hb.newY _ _ | refine Hb.alloc ?_ | refine Hb.drew ?_ | refine Hb.ext (by assumption) ?_ | exact Hb.setSameL (by first | omega | (simp only [size_alloc, size_setB, size_drew]; omega)) | exact Hb.setSame (by assumption) | refine Hb.set (by first | omega | (simp only [size_alloc, size_setB, size_drew]; omega)) ?_ ))) (Ce.h (by first | assumption | exact ⟨rfl⟩)) ?_
      refine WO_guardT rfl rfl hb3.h ?_
      refine WO_p (PS_lss rfl rfl) ?_
      refine WO_p (PS_pickT rfl hb3.h rfl) ?_
      refine WO_nil ?_
      refine thn_normal ?_
      refine W_if rfl (fun hb5 => ?_) (fun hb5 => ?_)
      · have hb5p := hb5.h; try simp only [al_ete, al_dfn, Bool.not_eq_true', Bool.not_eq_false', al_ne, Bool.not_not, al_nn] at hb5p
        refine W_region rfl ?_
        refine WO_p (PS_move_slice rfl) ?_
        refine WO_p (PS_move_slice rfl) ?_
        refine WO_p (PS_indexS Hvac.runUnderlying92 Hvac.sizeOf5 rfl rfl (by omega) (by omega)) ?_
        refine WO_load (.int _ _) Hvac.isAgg5 rfl (Hb.h (by repeat (first | assumption | exact Hb.newY _ _ | refine Hb.alloc ?_ | refine Hb.drew ?_ | refine Hb.ext (by assumption) ?_ | exact Hb.setSameL (by first | omega | (simp only [size_alloc, size_setB, size_drew]; omega)) | exact Hb.setSame (by assumption) | refine Hb.set (by first | omega | (simp only [size_alloc, size_setB, size_drew]; omega)) ?_ ))) (Ce.h (by first | assumption | exact ⟨rfl⟩)) ?_
        refine WO_p (PS_indexS Hvac.runUnderlying32 Hvac.sizeOf5 rfl rfl (by omega) (by omega)) ?_
        refine WO_store1 Hvac.sizeOf5 rfl (v := (.int _ _)) rfl (Hb.h (by repeat (first | assumption | exact Hb.newY _ _ | refine Hb.alloc ?_ | refine Hb.drew ?_ | refine Hb.ext (by assumption) ?_ | exact Hb.setSameL (by first | omega | (simp only [size_alloc, size_setB, size_drew]; omega)) | exact Hb.setSame (by assumption) | refine Hb.set (by first | omega | (simp only [size_alloc, size_setB, size_drew]; omega)) ?_ ))) rfl (by first | omega | assumption | rfl | decide | exact Nat.le_refl _ | (simp only [size_ic, Value.cells]; omega) | (simp [encWs]; done) | (simp; omega) | simp | exact encYA_sz (by assumption) | exact encYT_sz (by assumption) | exact encYM_sz (by assumption)) rfl ?_
        refine WO_nil ?_
        refine thn_normal ?_
        have e9 : yrlp a = [(a : Int)] := (by unfold yrlp; rw [if_neg (by omega), if_pos (by omega)]); rw [e9]; exact ⟨bR, 1, ⟨rfl, rfl, rfl, trivial⟩, AB.all (L := [(a : Int)]) (Hb.mk (Hb.h (by repeat (first | assumption | exact Hb.newY _ _ | refine Hb.alloc ?_ | refine Hb.drew ?_ | refine Hb.ext (by assumption) ?_ | exact Hb.setSameL (by first | omega | (simp only [size_alloc, size_setB, size_drew]; omega)) | exact Hb.setSame (by assumption) | refine Hb.set (by first | omega | (simp only [size_alloc, size_setB, size_drew]; omega)) ?_ )))) (by intro x hx; simp at hx; omega) rfl, (by repeat (first | assumption | exact Ext.refl _ | refine Ext.alloc ?_ _ | refine Ext.drew ?_ | refine Ext.setB ?_ (by first | omega | (simp only [size_alloc, size_setB, size_drew]; omega)) _ | refine Ext.trans ?_ (by assumption))), Hb.mk (Hb.h (by repeat (first | assumption | exact Hb.newY _ _ | refine Hb.alloc ?_ | refine Hb.drew ?_ | refine Hb.ext (by assumption) ?_ | exact Hb.setSameL (by first | omega | (simp only [size_alloc, size_setB, size_drew]; omega)) | exact Hb.setSame (by assumption) | refine Hb.set (by first | omega | (simp only [size_alloc, size_setB, size_drew]; omega)) ?_ ))), Hb.mk (Hb.h (by repeat (first | assumption | exact Hb.newY _ _ | refine Hb.alloc ?_ | refine Hb.drew ?_ | refine Hb.ext (by assumption) ?_ | exact Hb.setSameL (by first | omega | (simp only [size_alloc, size_setB, size_drew]; omega)) | exact Hb.setSame (by assumption) | refine Hb.set (by first | omega | (simp only [size_alloc, size_setB, size_drew]; omega)) ?_ )))⟩
      · have hb5p := hb5.h; try simp only [al_ete, al_dfn, Bool.not_eq_true', Bool.not_eq_false', al_ne, Bool.not_not, al_nn] at hb5p
        refine W_seq ?_
        refine W_region rfl ?_
        refine WO_p (PS_move_slice rfl) ?_
        refine WO_p (PS_lenS Hvac.runUnderlying92 rfl) ?_
        refine WO_p (PS_gtr rfl rfl) ?_
        refine WO_nil ?_
        refine thn_normal ?_
        refine W_if rfl (fun hb7 => ?_) (fun hb7 => ?_)
        · have hb7p := hb7.h; try simp only [al_ete, al_dfn, Bool.not_eq_true', Bool.not_eq_false', al_ne, Bool.not_not, al_nn] at hb7p
          have hn128 : ¬ a < 128 := by intro h9; have h8 := sz_le (n := a) (k := 1) (by omega); omega
          skip
          
          refine W_seq ?_
          refine W_region rfl ?_
          refine WO_p (PS_move_slice rfl) ?_
          refine WO_p (PS_move_slice rfl) ?_
          refine WO_p (PS_lenS Hvac.runUnderlying92 rfl) ?_
          refine WO_p (PS_conv_u8n Hvac.runUnderlying3 Hvac.runUnderlying5 rfl (by omega) (by omega)) ?_
          refine WO_p (PS_add_u8n rfl rfl (by omega) (by omega)) ?_
          refine WO_p (PS_indexS Hvac.runUnderlying32 Hvac.sizeOf5 rfl rfl (by omega) (by omega)) ?_
          refine WO_store1 Hvac.sizeOf5 rfl (v := (.int _ _)) rfl (Hb.h (by repeat (first | assumption | exact Hb.newY _ _ | refine Hb.alloc ?_ | refine Hb.drew ?_ | refine Hb.ext (by assumption) ?_ | exact Hb.setSameL (by first | omega | (simp only [size_alloc, size_setB, size_drew]; omega)) | exact Hb.setSame (by assumption) | refine Hb.set (by first | omega | (simp only [size_alloc, size_setB, size_drew]; omega)) ?_ ))) rfl (by first | omega | assumption | rfl | decide | exact Nat.le_refl _ | (simp only [size_ic, Value.cells]; omega) | (simp [encWs]; done) | (simp; omega) | simp | exact encYA_sz (by assumption) | exact encYT_sz (by assumption) | exact encYM_sz (by assumption)) rfl ?_
          refine WO_nil ?_
          refine thn_normal ?_
          refine W_seq ?_
          refine W_region rfl ?_
          refine WO_p (PS_move_slice rfl) ?_
          refine WO_p (PS_lenS Hvac.runUnderlying92 rfl) ?_
          refine WO_p (PS_assign_int rfl) ?_
          refine WO_nil ?_
          refine thn_normal ?_
          refine W_block ?_
          refine W_loopN (fun k9 ρ w' => ∃ (j : Nat) (so : Option (Nat × Nat)), j + k9 = sz a ∧ BL encBy 1 5 w [b2, b4, bN] w' so ((128 + (sz a : Int)) :: (dg a).reverse.take j) ∧ Fr [(2, .pointer (some ⟨b2, 0, none⟩)), (4, .pointer (some ⟨b4, 0, none⟩)), (5, .slice (slp so) ((128 + (sz a : Int)) :: (dg a).reverse.take j).length (slc so)), (6, .slice (some ⟨bN, 0, none⟩) (sz a) cN), (7, .int .i64 ((sz a : Int) - (j : Int)))] ρ ∧ Ext w w' ∧ Hb w' b2 (.cells (ic .u8 A) 25 (0, 0)) ∧ Hb w' b4 (.cells (ic .u8 (List.replicate 20 0)) 25 (0, 0)) ∧ Hb w' bN (.cells rN 5 fzN)) (sz a) ?_ ?_
          · exact ⟨0, some (bR, 1), by omega, bl_new (L := [128 + (sz a : Int)]) (Hb.mk (Hb.h (by repeat (first | assumption | exact Hb.newY _ _ | refine Hb.alloc ?_ | refine Hb.drew ?_ | refine Hb.ext (by assumption) ?_ | exact Hb.setSameL (by first | omega | (simp only [size_alloc, size_setB, size_drew]; omega)) | exact Hb.setSame (by assumption) | refine Hb.set (by first | omega | (simp only [size_alloc, size_setB, size_drew]; omega)) ?_ )))) (by omega) (by simp; omega), ⟨rfl, rfl, rfl, rfl, congrArg (Value.int .i64) (by omega), trivial⟩, (by repeat (first | assumption | exact Ext.refl _ | refine Ext.alloc ?_ _ | refine Ext.drew ?_ | refine Ext.setB ?_ (by first | omega | (simp only [size_alloc, size_setB, size_drew]; omega)) _ | refine Ext.trans ?_ (by assumption))), Hb.mk (Hb.h (by repeat (first | assumption | exact Hb.newY _ _ | refine Hb.alloc ?_ | refine Hb.drew ?_ | refine Hb.ext (by assumption) ?_ | exact Hb.setSameL (by first | omega | (simp only [size_alloc, size_setB, size_drew]; omega)) | exact Hb.setSame (by assumption) | refine Hb.set (by first | omega | (simp only [size_alloc, size_setB, size_drew]; omega)) ?_ ))), Hb.mk (Hb.h (by repeat (first | assumption | exact Hb.newY _ _ | refine Hb.alloc ?_ | refine Hb.drew ?_ | refine Hb.ext (by assumption) ?_ | exact Hb.setSameL (by first | omega | (simp only [size_alloc, size_setB, size_drew]; omega)) | exact Hb.setSame (by assumption) | refine Hb.set (by first | omega | (simp only [size_alloc, size_setB, size_drew]; omega)) ?_ ))), Hb.mk (Hb.h (by repeat (first | assumption | exact Hb.newY _ _ | refine Hb.alloc ?_ | refine Hb.drew ?_ | refine Hb.ext (by assumption) ?_ | exact Hb.setSameL (by first | omega | (simp only [size_alloc, size_setB, size_drew]; omega)) | exact Hb.setSame (by assumption) | refine Hb.set (by first | omega | (simp only [size_alloc, size_setB, size_drew]; omega)) ?_ )))⟩
          intro k50 ρ50 w50 hI50
          obtain ⟨j, so, hjk, hBK, hFr50, hE50, hb2k, hb4k, hbNk⟩ := hI50
          refine W_env _ hFr50 ?_
          have hz50 := hE50.1
          have hb2k_l := hb2k.lt
          have hb4k_l := hb4k.lt
          have hbNk_l := hbNk.lt
          refine W_seq ?_
          refine W_seq ?_
          refine W_region rfl ?_
          refine WO_p (PS_move_int rfl) ?_
          refine WO_p (PS_gtr rfl rfl) ?_
          refine WO_nil ?_
          refine thn_normal ?_
          refine W_if rfl (fun hb9 => ?_) (fun hb9 => ?_)
          · have hb9p := hb9.h; try simp only [al_ete, al_dfn, Bool.not_eq_true', Bool.not_eq_false', al_ne, Bool.not_not, al_nn] at hb9p
            have hjn : ((sz a : Int) - (j : Int) - 1).toNat = sz a - j - 1 := by omega
            have hce : Ce rN (0 + ((sz a : Int) - (j : Int) - 1).toNat * 1) (.int .u8 ((dg a).getD (sz a - j - 1) 0)) := by rw [hjn]; exact hatN _ (by omega)
            have hgb := gd_by (dg_by a) (sz a - j - 1)
            have hlenK : ((128 + (sz a : Int)) :: (dg a).reverse.take j).length = j + 1 := by simp [dg_len]; omega
            have hKe : ((128 + (sz a : Int)) :: (dg a).reverse.take (j + 1)) = ((128 + (sz a : Int)) :: (dg a).reverse.take j) ++ [(dg a).getD (sz a - j - 1) 0] := by rw [rlp_step (by omega)]; rfl
            refine W_skip ?_
            refine thn_normal ?_
            refine W_seq ?_
            refine W_block ?_
            refine W_region rfl ?_
            refine WO_p (PS_move_slice rfl) ?_
            refine WO_p (PS_move_slice rfl) ?_
            refine WO_p (PS_move_int rfl) ?_
            refine WO_p (PS_sub_i64n rfl rfl (by omega) (by omega)) ?_
            refine WO_p (PS_indexS Hvac.runUnderlying92 Hvac.sizeOf5 rfl rfl (by omega) (by omega)) ?_
            refine WO_load (.int _ _) Hvac.isAgg5 rfl (Hb.h (by repeat (first | assumption | exact Hb.newY _ _ | refine Hb.alloc ?_ | refine Hb.drew ?_ | refine Hb.ext (by assumption) ?_ | exact Hb.setSameL (by first | omega | (simp only [size_alloc, size_setB, size_drew]; omega)) | exact Hb.setSame (by assumption) | refine Hb.set (by first | omega | (simp only [size_alloc, size_setB, size_drew]; omega)) ?_ ))) (Ce.h (by first | assumption | exact ⟨rfl⟩)) ?_
            refine WO_buildSliceV (.int _ _) Hvac.runUnderlying32 Hvac.sizeOf5 Hvac.zeroValue5 rfl rfl (by decide) (by decide) ?_
            refine WO_app ((dg a).getD (sz a - j - 1) 0) ap_B (BL.ext hBK (by repeat (first | assumption | exact Ext.refl _ | refine Ext.alloc ?_ _ | refine Ext.drew ?_ | refine Ext.setB ?_ (by first | omega | (simp only [size_alloc, size_setB, size_drew]; omega)) _ | exact Ext.trans (by assumption) (by assumption) | refine Ext.trans ?_ (by assumption)))) (by repeat (first | assumption | exact Ext.refl _ | refine Ext.alloc ?_ _ | refine Ext.drew ?_ | refine Ext.setB ?_ (by first | omega | (simp only [size_alloc, size_setB, size_drew]; omega)) _ | exact Ext.trans (by assumption) (by assumption) | refine Ext.trans ?_ (by assumption))) (by intro b hb; simp at hb; rcases hb with rfl | rfl | rfl <;> (first | omega | (simp only [size_alloc, size_setB, size_drew]; omega))) (by omega) rfl (Hb.mk (Hb.h (by repeat (first | assumption | exact Hb.newY _ _ | refine Hb.alloc ?_ | refine Hb.drew ?_ | refine Hb.ext (by assumption) ?_ | exact Hb.setSameL (by first | omega | (simp only [size_alloc, size_setB, size_drew]; omega)) | exact Hb.setSame (by assumption) | refine Hb.set (by first | omega | (simp only [size_alloc, size_setB, size_drew]; omega)) ?_ )))) rfl rfl ?_
            intro soL wL hBL hEL hkL hzL
            try simp only [size_alloc, size_setB, size_drew] at hzL
            have hb2_L := hkL b2 _ (by simp) (Hb.mk (Hb.h (by repeat (first | assumption | exact Hb.newY _ _ | refine Hb.alloc ?_ | refine Hb.drew ?_ | refine Hb.ext (by assumption) ?_ | exact Hb.setSameL (by first | omega | (simp only [size_alloc, size_setB, size_drew]; omega)) | exact Hb.setSame (by assumption) | refine Hb.set (by first | omega | (simp only [size_alloc, size_setB, size_drew]; omega)) ?_ ))) : Hb _ b2 (.cells (ic .u8 A) 25 (0, 0)))
            have hb4_L := hkL b4 _ (by simp) (Hb.mk (Hb.h (by repeat (first | assumption | exact Hb.newY _ _ | refine Hb.alloc ?_ | refine Hb.drew ?_ | refine Hb.ext (by assumption) ?_ | exact Hb.setSameL (by first | omega | (simp only [size_alloc, size_setB, size_drew]; omega)) | exact Hb.setSame (by assumption) | refine Hb.set (by first | omega | (simp only [size_alloc, size_setB, size_drew]; omega)) ?_ ))) : Hb _ b4 (.cells (ic .u8 (List.replicate 20 0)) 25 (0, 0)))
            have hbN_L := hkL bN _ (by simp) (Hb.mk (Hb.h (by repeat (first | assumption | exact Hb.newY _ _ | refine Hb.alloc ?_ | refine Hb.drew ?_ | refine Hb.ext (by assumption) ?_ | exact Hb.setSameL (by first | omega | (simp only [size_alloc, size_setB, size_drew]; omega)) | exact Hb.setSame (by assumption) | refine Hb.set (by first | omega | (simp only [size_alloc, size_setB, size_drew]; omega)) ?_ ))) : Hb _ bN (.cells rN 5 fzN))
            have hBL2 : BL encBy 1 5 w [b2, b4, bN] wL soL ((128 + (sz a : Int)) :: (dg a).reverse.take (j + 1)) := by rw [hKe]; exact hBL
            refine WO_p (PS_assign_slice rfl) ?_
            refine WO_nil ?_
            refine inBlk_normal ?_
            refine thn_normal ?_
            refine W_region rfl ?_
            refine WO_p (PS_move_int rfl) ?_
            refine WO_p (PS_sub_i64n rfl rfl (by omega) (by omega)) ?_
            refine WO_p (PS_assign_int rfl) ?_
            refine WO_nil ?_
            refine thn_normal ?_
            exact ⟨k50 - 1, by omega, j + 1, soL, by omega, hBL2, ⟨rfl, rfl, by rw [hKe]; rfl, rfl, congrArg (Value.int .i64) (by omega), trivial⟩, (by repeat (first | assumption | exact Ext.refl _ | refine Ext.alloc ?_ _ | refine Ext.drew ?_ | refine Ext.setB ?_ (by first | omega | (simp only [size_alloc, size_setB, size_drew]; omega)) _ | refine Ext.trans ?_ (by assumption))), Hb.mk (Hb.h (by repeat (first | assumption | exact Hb.newY _ _ | refine Hb.alloc ?_ | refine Hb.drew ?_ | refine Hb.ext (by assumption) ?_ | exact Hb.setSameL (by first | omega | (simp only [size_alloc, size_setB, size_drew]; omega)) | exact Hb.setSame (by assumption) | refine Hb.set (by first | omega | (simp only [size_alloc, size_setB, size_drew]; omega)) ?_ ))), Hb.mk (Hb.h (by repeat (first | assumption | exact Hb.newY _ _ | refine Hb.alloc ?_ | refine Hb.drew ?_ | refine Hb.ext (by assumption) ?_ | exact Hb.setSameL (by first | omega | (simp only [size_alloc, size_setB, size_drew]; omega)) | exact Hb.setSame (by assumption) | refine Hb.set (by first | omega | (simp only [size_alloc, size_setB, size_drew]; omega)) ?_ ))), Hb.mk (Hb.h (by repeat (first | assumption | exact Hb.newY _ _ | refine Hb.alloc ?_ | refine Hb.drew ?_ | refine Hb.ext (by assumption) ?_ | exact Hb.setSameL (by first | omega | (simp only [size_alloc, size_setB, size_drew]; omega)) | exact Hb.setSame (by assumption) | refine Hb.set (by first | omega | (simp only [size_alloc, size_setB, size_drew]; omega)) ?_ )))⟩
          · have hb9p := hb9.h; try simp only [al_ete, al_dfn, Bool.not_eq_true', Bool.not_eq_false', al_ne, Bool.not_not, al_nn] at hb9p
            refine W_exit ?_
            refine thn_exit ?_
            refine thn_exit ?_
            refine inBlk_exit ?_
            refine thn_normal ?_
            have hjt : (dg a).reverse.take j = (dg a).reverse := List.take_of_length_le (by rw [List.length_reverse, dg_len]; omega); rw [hjt] at hBK; have e9 : yrlp a = (128 + (sz a : Int)) :: (dg a).reverse := (by unfold yrlp; rw [if_neg (by omega), if_neg hn128]); rw [e9]; obtain ⟨bQ, cQ, hso⟩ : ∃ bQ cQ, so = some (bQ, cQ) := (by cases so with | none => (have h9 := hBK.row; simp only [Row] at h9; cases h9) | some q => exact ⟨q.1, q.2, rfl⟩); subst hso; exact ⟨bQ, cQ, ⟨rfl, rfl, (congrArg (fun n => Value.slice (some ⟨bQ, 0, none⟩) n cQ) (by simp [dg_len]; omega)), trivial⟩, BL.ab hBK (by rw [← e9]; exact hyb), hE50, hb2k, hb4k⟩
        · have hb7p := hb7.h; try simp only [al_ete, al_dfn, Bool.not_eq_true', Bool.not_eq_false', al_ne, Bool.not_not, al_nn] at hb7p
          have hz0 : a = 0 := sz_eq_zero (by omega)
          refine W_skip ?_
          refine thn_normal ?_
          have e9 : yrlp a = [128] := (by unfold yrlp; rw [if_pos hz0]); rw [e9]; exact ⟨bR, 1, ⟨rfl, rfl, rfl, trivial⟩, AB.all (L := [128]) (Hb.mk (Hb.h (by repeat (first | assumption | exact Hb.newY _ _ | refine Hb.alloc ?_ | refine Hb.drew ?_ | refine Hb.ext (by assumption) ?_ | exact Hb.setSameL (by first | omega | (simp only [size_alloc, size_setB, size_drew]; omega)) | exact Hb.setSame (by assumption) | refine Hb.set (by first | omega | (simp only [size_alloc, size_setB, size_drew]; omega)) ?_ )))) (by intro x hx; simp at hx; omega) rfl, (by repeat (first | assumption | exact Ext.refl _ | refine Ext.alloc ?_ _ | refine Ext.drew ?_ | refine Ext.setB ?_ (by first | omega | (simp only [size_alloc, size_setB, size_drew]; omega)) _ | refine Ext.trans ?_ (by assumption))), Hb.mk (Hb.h (by repeat (first | assumption | exact Hb.newY _ _ | refine Hb.alloc ?_ | refine Hb.drew ?_ | refine Hb.ext (by assumption) ?_ | exact Hb.setSameL (by first | omega | (simp only [size_alloc, size_setB, size_drew]; omega)) | exact Hb.setSame (by assumption) | refine Hb.set (by first | omega | (simp only [size_alloc, size_setB, size_drew]; omega)) ?_ ))), Hb.mk (Hb.h (by repeat (first | assumption | exact Hb.newY _ _ | refine Hb.alloc ?_ | refine Hb.drew ?_ | refine Hb.ext (by assumption) ?_ | exact Hb.setSameL (by first | omega | (simp only [size_alloc, size_setB, size_drew]; omega)) | exact Hb.setSame (by assumption) | refine Hb.set (by first | omega | (simp only [size_alloc, size_setB, size_drew]; omega)) ?_ )))⟩
    · have hb3p := hb3.h; try simp only [al_ete, al_dfn, Bool.not_eq_true', Bool.not_eq_false', al_ne, Bool.not_not, al_nn] at hb3p
      skip
      refine WO_guardF rfl rfl hb3.h ?_
      refine WO_guardF rfl rfl hb3.h ?_
      refine WO_guardF rfl rfl hb3.h ?_
      refine WO_guardF rfl rfl hb3.h ?_
      refine WO_p (PS_pickF rfl hb3.h rfl) ?_
      refine WO_nil ?_
      refine thn_normal ?_
      refine W_condF rfl rfl ?_
      refine W_seq ?_
      refine W_region rfl ?_
      refine WO_p (PS_move_slice rfl) ?_
      refine WO_p (PS_lenS Hvac.runUnderlying92 rfl) ?_
      refine WO_p (PS_gtr rfl rfl) ?_
      refine WO_nil ?_
      refine thn_normal ?_
      refine W_if rfl (fun hb11 => ?_) (fun hb11 => ?_)
      · have hb11p := hb11.h; try simp only [al_ete, al_dfn, Bool.not_eq_true', Bool.not_eq_false', al_ne, Bool.not_not, al_nn] at hb11p
        have hn128 : ¬ a < 128 := by intro h9; have h8 := sz_le (n := a) (k := 1) (by omega); omega
        obtain ⟨bN, rN, fzN, hpN, hoN, hbN, hrsN, hXN⟩ := PB.row hN6 (by show 0 < sz a; omega); dsimp only at hpN hrsN hXN; subst hpN; have hbNR : bN ≠ bR := fun h => hoN (h ▸ hR2); have hbNl := hbN.lt; have hatN : ∀ i, i < sz a → Ce rN (0 + i * 1) (.int .u8 ((dg a).getD i 0)) := fun i hi => xt_ce1 hXN (dg_len a) hi
        
        refine W_seq ?_
        refine W_region rfl ?_
        refine WO_p (PS_move_slice rfl) ?_
        refine WO_p (PS_move_slice rfl) ?_
        refine WO_p (PS_lenS Hvac.runUnderlying92 rfl) ?_
        refine WO_p (PS_conv_u8n Hvac.runUnderlying3 Hvac.runUnderlying5 rfl (by omega) (by omega)) ?_
        refine WO_p (PS_add_u8n rfl rfl (by omega) (by omega)) ?_
        refine WO_p (PS_indexS Hvac.runUnderlying32 Hvac.sizeOf5 rfl rfl (by omega) (by omega)) ?_
        refine WO_store1 Hvac.sizeOf5 rfl (v := (.int _ _)) rfl (Hb.h (by repeat (first | assumption | exact Hb.newY _ _ | refine Hb.alloc ?_ | refine Hb.drew ?_ | refine Hb.ext (by assumption) ?_ | exact Hb.setSameL (by first | omega | (simp only [size_alloc, size_setB, size_drew]; omega)) | exact Hb.setSame (by assumption) | refine Hb.set (by first | omega | (simp only [size_alloc, size_setB, size_drew]; omega)) ?_ ))) rfl (by first | omega | assumption | rfl | decide | exact Nat.le_refl _ | (simp only [size_ic, Value.cells]; omega) | (simp [encWs]; done) | (simp; omega) | simp | exact encYA_sz (by assumption) | exact encYT_sz (by assumption) | exact encYM_sz (by assumption)) rfl ?_
        refine WO_nil ?_
        refine thn_normal ?_
        refine W_seq ?_
        refine W_region rfl ?_
        refine WO_p (PS_move_slice rfl) ?_
        refine WO_p (PS_lenS Hvac.runUnderlying92 rfl) ?_
        refine WO_p (PS_assign_int rfl) ?_
        refine WO_nil ?_
        refine thn_normal ?_
        refine W_block ?_
        refine W_loopN (fun k9 ρ w' => ∃ (j : Nat) (so : Option (Nat × Nat)), j + k9 = sz a ∧ BL encBy 1 5 w [b2, b4, bN] w' so ((128 + (sz a : Int)) :: (dg a).reverse.take j) ∧ Fr [(2, .pointer (some ⟨b2, 0, none⟩)), (4, .pointer (some ⟨b4, 0, none⟩)), (5, .slice (slp so) ((128 + (sz a : Int)) :: (dg a).reverse.take j).length (slc so)), (6, .slice (some ⟨bN, 0, none⟩) (sz a) cN), (7, .int .i64 ((sz a : Int) - (j : Int)))] ρ ∧ Ext w w' ∧ Hb w' b2 (.cells (ic .u8 A) 25 (0, 0)) ∧ Hb w' b4 (.cells (ic .u8 (List.replicate 20 0)) 25 (0, 0)) ∧ Hb w' bN (.cells rN 5 fzN)) (sz a) ?_ ?_
        · exact ⟨0, some (bR, 1), by omega, bl_new (L := [128 + (sz a : Int)]) (Hb.mk (Hb.h (by repeat (first | assumption | exact Hb.newY _ _ | refine Hb.alloc ?_ | refine Hb.drew ?_ | refine Hb.ext (by assumption) ?_ | exact Hb.setSameL (by first | omega | (simp only [size_alloc, size_setB, size_drew]; omega)) | exact Hb.setSame (by assumption) | refine Hb.set (by first | omega | (simp only [size_alloc, size_setB, size_drew]; omega)) ?_ )))) (by omega) (by simp; omega), ⟨rfl, rfl, rfl, rfl, congrArg (Value.int .i64) (by omega), trivial⟩, (by repeat (first | assumption | exact Ext.refl _ | refine Ext.alloc ?_ _ | refine Ext.drew ?_ | refine Ext.setB ?_ (by first | omega | (simp only [size_alloc, size_setB, size_drew]; omega)) _ | refine Ext.trans ?_ (by assumption))), Hb.mk (Hb.h (by repeat (first | assumption | exact Hb.newY _ _ | refine Hb.alloc ?_ | refine Hb.drew ?_ | refine Hb.ext (by assumption) ?_ | exact Hb.setSameL (by first | omega | (simp only [size_alloc, size_setB, size_drew]; omega)) | exact Hb.setSame (by assumption) | refine Hb.set (by first | omega | (simp only [size_alloc, size_setB, size_drew]; omega)) ?_ ))), Hb.mk (Hb.h (by repeat (first | assumption | exact Hb.newY _ _ | refine Hb.alloc ?_ | refine Hb.drew ?_ | refine Hb.ext (by assumption) ?_ | exact Hb.setSameL (by first | omega | (simp only [size_alloc, size_setB, size_drew]; omega)) | exact Hb.setSame (by assumption) | refine Hb.set (by first | omega | (simp only [size_alloc, size_setB, size_drew]; omega)) ?_ ))), Hb.mk (Hb.h (by repeat (first | assumption | exact Hb.newY _ _ | refine Hb.alloc ?_ | refine Hb.drew ?_ | refine Hb.ext (by assumption) ?_ | exact Hb.setSameL (by first | omega | (simp only [size_alloc, size_setB, size_drew]; omega)) | exact Hb.setSame (by assumption) | refine Hb.set (by first | omega | (simp only [size_alloc, size_setB, size_drew]; omega)) ?_ )))⟩
        intro k50 ρ50 w50 hI50
        obtain ⟨j, so, hjk, hBK, hFr50, hE50, hb2k, hb4k, hbNk⟩ := hI50
        refine W_env _ hFr50 ?_
        have hz50 := hE50.1
        have hb2k_l := hb2k.lt
        have hb4k_l := hb4k.lt
        have hbNk_l := hbNk.lt
        refine W_seq ?_
        refine W_seq ?_
        refine W_region rfl ?_
        refine WO_p (PS_move_int rfl) ?_
        refine WO_p (PS_gtr rfl rfl) ?_
        refine WO_nil ?_
        refine thn_normal ?_
        refine W_if rfl (fun hb13 => ?_) (fun hb13 => ?_)
        · have hb13p := hb13.h; try simp only [al_ete, al_dfn, Bool.not_eq_true', Bool.not_eq_false', al_ne, Bool.not_not, al_nn] at hb13p
          have hjn : ((sz a : Int) - (j : Int) - 1).toNat = sz a - j - 1 := by omega
          have hce : Ce rN (0 + ((sz a : Int) - (j : Int) - 1).toNat * 1) (.int .u8 ((dg a).getD (sz a - j - 1) 0)) := by rw [hjn]; exact hatN _ (by omega)
          have hgb := gd_by (dg_by a) (sz a - j - 1)
          have hlenK : ((128 + (sz a : Int)) :: (dg a).reverse.take j).length = j + 1 := by simp [dg_len]; omega
          have hKe : ((128 + (sz a : Int)) :: (dg a).reverse.take (j + 1)) = ((128 + (sz a : Int)) :: (dg a).reverse.take j) ++ [(dg a).getD (sz a - j - 1) 0] := by rw [rlp_step (by omega)]; rfl
          refine W_skip ?_
          refine thn_normal ?_
          refine W_seq ?_
          refine W_block ?_
          refine W_region rfl ?_
          refine WO_p (PS_move_slice rfl) ?_
          refine WO_p (PS_move_slice rfl) ?_
          refine WO_p (PS_move_int rfl) ?_
          refine WO_p (PS_sub_i64n rfl rfl (by omega) (by omega)) ?_
          refine WO_p (PS_indexS Hvac.runUnderlying92 Hvac.sizeOf5 rfl rfl (by omega) (by omega)) ?_
          refine WO_load (.int _ _) Hvac.isAgg5 rfl (Hb.h (by repeat (first | assumption | exact Hb.newY _ _ | refine Hb.alloc ?_ | refine Hb.drew ?_ | refine Hb.ext (by assumption) ?_ | exact Hb.setSameL (by first | omega | (simp only [size_alloc, size_setB, size_drew]; omega)) | exact Hb.setSame (by assumption) | refine Hb.set (by first | omega | (simp only [size_alloc, size_setB, size_drew]; omega)) ?_ ))) (Ce.h (by first | assumption | exact ⟨rfl⟩)) ?_
          refine WO_buildSliceV (.int _ _) Hvac.runUnderlying32 Hvac.sizeOf5 Hvac.zeroValue5 rfl rfl (by decide) (by decide) ?_
          refine WO_app ((dg a).getD (sz a - j - 1) 0) ap_B (BL.ext hBK (by repeat (first | assumption | exact Ext.refl _ | refine Ext.alloc ?_ _ | refine Ext.drew ?_ | refine Ext.setB ?_ (by first | omega | (simp only [size_alloc, size_setB, size_drew]; omega)) _ | exact Ext.trans (by assumption) (by assumption) | refine Ext.trans ?_ (by assumption)))) (by repeat (first | assumption | exact Ext.refl _ | refine Ext.alloc ?_ _ | refine Ext.drew ?_ | refine Ext.setB ?_ (by first | omega | (simp only [size_alloc, size_setB, size_drew]; omega)) _ | exact Ext.trans (by assumption) (by assumption) | refine Ext.trans ?_ (by assumption))) (by intro b hb; simp at hb; rcases hb with rfl | rfl | rfl <;> (first | omega | (simp only [size_alloc, size_setB, size_drew]; omega))) (by omega) rfl (Hb.mk (Hb.h (by repeat (first | assumption | exact Hb.newY _ _ | refine Hb.alloc ?_ | refine Hb.drew ?_ | refine Hb.ext (by assumption) ?_ | exact Hb.setSameL (by first | omega | (simp only [size_alloc, size_setB, size_drew]; omega)) | exact Hb.setSame (by assumption) | refine Hb.set (by first | omega | (simp only [size_alloc, size_setB, size_drew]; omega)) ?_ )))) rfl rfl ?_
          intro soL wL hBL hEL hkL hzL
          try simp only [size_alloc, size_setB, size_drew] at hzL
          have hb2_L := hkL b2 _ (by simp) (Hb.mk (Hb.h (by repeat (first | assumption | exact Hb.newY _ _ | refine Hb.alloc ?_ | refine Hb.drew ?_ | refine Hb.ext (by assumption) ?_ | exact Hb.setSameL (by first | omega | (simp only [size_alloc, size_setB, size_drew]; omega)) | exact Hb.setSame (by assumption) | refine Hb.set (by first | omega | (simp only [size_alloc, size_setB, size_drew]; omega)) ?_ ))) : Hb _ b2 (.cells (ic .u8 A) 25 (0, 0)))
          have hb4_L := hkL b4 _ (by simp) (Hb.mk (Hb.h (by repeat (first | assumption | exact Hb.newY _ _ | refine Hb.alloc ?_ | refine Hb.drew ?_ | refine Hb.ext (by assumption) ?_ | exact Hb.setSameL (by first | omega | (simp only [size_alloc, size_setB, size_drew]; omega)) | exact Hb.setSame (by assumption) | refine Hb.set (by first | omega | (simp only [size_alloc, size_setB, size_drew]; omega)) ?_ ))) : Hb _ b4 (.cells (ic .u8 (List.replicate 20 0)) 25 (0, 0)))
          have hbN_L := hkL bN _ (by simp) (Hb.mk (Hb.h (by repeat (first | assumption | exact Hb.newY _ _ | refine Hb.alloc ?_ | refine Hb.drew ?_ | refine Hb.ext (by assumption) ?_ | exact Hb.setSameL (by first | omega | (simp only [size_alloc, size_setB, size_drew]; omega)) | exact Hb.setSame (by assumption) | refine Hb.set (by first | omega | (simp only [size_alloc, size_setB, size_drew]; omega)) ?_ ))) : Hb _ bN (.cells rN 5 fzN))
          have hBL2 : BL encBy 1 5 w [b2, b4, bN] wL soL ((128 + (sz a : Int)) :: (dg a).reverse.take (j + 1)) := by rw [hKe]; exact hBL
          refine WO_p (PS_assign_slice rfl) ?_
          refine WO_nil ?_
          refine inBlk_normal ?_
          refine thn_normal ?_
          refine W_region rfl ?_
          refine WO_p (PS_move_int rfl) ?_
          refine WO_p (PS_sub_i64n rfl rfl (by omega) (by omega)) ?_
          refine WO_p (PS_assign_int rfl) ?_
          refine WO_nil ?_
          refine thn_normal ?_
          exact ⟨k50 - 1, by omega, j + 1, soL, by omega, hBL2, ⟨rfl, rfl, by rw [hKe]; rfl, rfl, congrArg (Value.int .i64) (by omega), trivial⟩, (by repeat (first | assumption | exact Ext.refl _ | refine Ext.alloc ?_ _ | refine Ext.drew ?_ | refine Ext.setB ?_ (by first | omega | (simp only [size_alloc, size_setB, size_drew]; omega)) _ | refine Ext.trans ?_ (by assumption))), Hb.mk (Hb.h (by repeat (first | assumption | exact Hb.newY _ _ | refine Hb.alloc ?_ | refine Hb.drew ?_ | refine Hb.ext (by assumption) ?_ | exact Hb.setSameL (by first | omega | (simp only [size_alloc, size_setB, size_drew]; omega)) | exact Hb.setSame (by assumption) | refine Hb.set (by first | omega | (simp only [size_alloc, size_setB, size_drew]; omega)) ?_ ))), Hb.mk (Hb.h (by repeat (first | assumption | exact Hb.newY _ _ | refine Hb.alloc ?_ | refine Hb.drew ?_ | refine Hb.ext (by assumption) ?_ | exact Hb.setSameL (by first | omega | (simp only [size_alloc, size_setB, size_drew]; omega)) | exact Hb.setSame (by assumption) | refine Hb.set (by first | omega | (simp only [size_alloc, size_setB, size_drew]; omega)) ?_ ))), Hb.mk (Hb.h (by repeat (first | assumption | exact Hb.newY _ _ | refine Hb.alloc ?_ | refine Hb.drew ?_ | refine Hb.ext (by assumption) ?_ | exact Hb.setSameL (by first | omega | (simp only [size_alloc, size_setB, size_drew]; omega)) | exact Hb.setSame (by assumption) | refine Hb.set (by first | omega | (simp only [size_alloc, size_setB, size_drew]; omega)) ?_ )))⟩
        · have hb13p := hb13.h; try simp only [al_ete, al_dfn, Bool.not_eq_true', Bool.not_eq_false', al_ne, Bool.not_not, al_nn] at hb13p
          refine W_exit ?_
          refine thn_exit ?_
          refine thn_exit ?_
          refine inBlk_exit ?_
          refine thn_normal ?_
          have hjt : (dg a).reverse.take j = (dg a).reverse := List.take_of_length_le (by rw [List.length_reverse, dg_len]; omega); rw [hjt] at hBK; have e9 : yrlp a = (128 + (sz a : Int)) :: (dg a).reverse := (by unfold yrlp; rw [if_neg (by omega), if_neg hn128]); rw [e9]; obtain ⟨bQ, cQ, hso⟩ : ∃ bQ cQ, so = some (bQ, cQ) := (by cases so with | none => (have h9 := hBK.row; simp only [Row] at h9; cases h9) | some q => exact ⟨q.1, q.2, rfl⟩); subst hso; exact ⟨bQ, cQ, ⟨rfl, rfl, (congrArg (fun n => Value.slice (some ⟨bQ, 0, none⟩) n cQ) (by simp [dg_len]; omega)), trivial⟩, BL.ab hBK (by rw [← e9]; exact hyb), hE50, hb2k, hb4k⟩
      · have hb11p := hb11.h; try simp only [al_ete, al_dfn, Bool.not_eq_true', Bool.not_eq_false', al_ne, Bool.not_not, al_nn] at hb11p
        have hz0 : a = 0 := sz_eq_zero (by omega)
        refine W_skip ?_
        refine thn_normal ?_
        have e9 : yrlp a = [128] := (by unfold yrlp; rw [if_pos hz0]); rw [e9]; exact ⟨bR, 1, ⟨rfl, rfl, rfl, trivial⟩, AB.all (L := [128]) (Hb.mk (Hb.h (by repeat (first | assumption | exact Hb.newY _ _ | refine Hb.alloc ?_ | refine Hb.drew ?_ | refine Hb.ext (by assumption) ?_ | exact Hb.setSameL (by first | omega | (simp only [size_alloc, size_setB, size_drew]; omega)) | exact Hb.setSame (by assumption) | refine Hb.set (by first | omega | (simp only [size_alloc, size_setB, size_drew]; omega)) ?_ )))) (by intro x hx; simp at hx; omega) rfl, (by repeat (first | assumption | exact Ext.refl _ | refine Ext.alloc ?_ _ | refine Ext.drew ?_ | refine Ext.setB ?_ (by first | omega | (simp only [size_alloc, size_setB, size_drew]; omega)) _ | refine Ext.trans ?_ (by assumption))), Hb.mk (Hb.h (by repeat (first | assumption | exact Hb.newY _ _ | refine Hb.alloc ?_ | refine Hb.drew ?_ | refine Hb.ext (by assumption) ?_ | exact Hb.setSameL (by first | omega | (simp only [size_alloc, size_setB, size_drew]; omega)) | exact Hb.setSame (by assumption) | refine Hb.set (by first | omega | (simp only [size_alloc, size_setB, size_drew]; omega)) ?_ ))), Hb.mk (Hb.h (by repeat (first | assumption | exact Hb.newY _ _ | refine Hb.alloc ?_ | refine Hb.drew ?_ | refine Hb.ext (by assumption) ?_ | exact Hb.setSameL (by first | omega | (simp only [size_alloc, size_setB, size_drew]; omega)) | exact Hb.setSame (by assumption) | refine Hb.set (by first | omega | (simp only [size_alloc, size_setB, size_drew]; omega)) ?_ )))⟩
  · rintro ρ11 w11 ⟨bQ, cQ, hFr11, hQ11, hE11, hb211, hb411⟩
    refine W_env _ hFr11 ?_
    have hz11 := hE11.1
    have hb2l1 := hb211.lt
    have hb4l1 := hb411.lt
    obtain ⟨bQ1, oQ, rQ, TQ, fzQ, hpQ, hbQ, hrsQ, hXQ⟩ := hQ11.row hyl0
    cases hpQ
    have hbQl := hbQ.lt
    refine W_seq ?_
    refine W_region rfl ?_
    refine WO_p (PS_move_slice rfl) ?_
    refine WO_p (PS_lenS Hvac.runUnderlying32 rfl) ?_
    refine WO_p (PS_add_i64n rfl rfl (by omega) (by omega)) ?_
    refine WO_p (PS_conv_u8n Hvac.runUnderlying3 Hvac.runUnderlying5 rfl (by omega) (by omega)) ?_
    refine WO_p (PS_add_u8n rfl rfl (by omega) (by omega)) ?_
    refine WO_buildSliceV2 (.int _ _) (.int _ _) Hvac.runUnderlying32 Hvac.sizeOf5 Hvac.zeroValue5 rfl rfl rfl rfl ?_
    refine WO_p (PS_assign_slice rfl) ?_
    refine WO_nil ?_
    refine thn_normal ?_
    refine W_seq ?_
    refine W_region rfl ?_
    refine WO_p (PS_move_slice rfl) ?_
    refine WO_p (PS_slA Hvac.runUnderlying25 Hvac.sizeOf5 rfl (by omega)) ?_
    refine WO_appY (K := [192 + (21 + ((yrlp a).length : Int)), 148]) (M := A) (bl_new (w0 := w) (X := [b2, b4, bQ]) (L := [192 + (21 + ((yrlp a).length : Int)), 148]) (Hb.mk (Hb.h (by repeat (first | assumption | exact Hb.newY _ _ | refine Hb.alloc ?_ | refine Hb.drew ?_ | refine Hb.ext (by assumption) ?_ | exact Hb.setSameL (by first | omega | (simp only [size_alloc, size_setB, size_drew]; omega)) | exact Hb.setSame (by assumption) | refine Hb.set (by first | omega | (simp only [size_alloc, size_setB, size_drew]; omega)) ?_ )))) (by first | omega | (simp only [size_alloc, size_setB, size_drew]; omega)) (by simp [size_alloc, size_setB, size_drew]; omega)) (by repeat (first | assumption | exact Ext.refl _ | refine Ext.alloc ?_ _ | refine Ext.drew ?_ | refine Ext.setB ?_ (by first | omega | (simp only [size_alloc, size_setB, size_drew]; omega)) _ | exact Ext.trans (by assumption) (by assumption) | refine Ext.trans ?_ (by assumption))) (by intro b hb; simp at hb; rcases hb with rfl | rfl | rfl <;> (first | omega | (simp only [size_alloc, size_setB, size_drew]; omega))) (by simp) (by omega) (by simp only [List.length_append, List.length_cons, List.length_nil, hAl]; omega) (AB.all (Hb.mk (Hb.h (by repeat (first | assumption | exact Hb.newY _ _ | refine Hb.alloc ?_ | refine Hb.drew ?_ | refine Hb.ext (by assumption) ?_ | exact Hb.setSameL (by first | omega | (simp only [size_alloc, size_setB, size_drew]; omega)) | exact Hb.setSame (by assumption) | refine Hb.set (by first | omega | (simp only [size_alloc, size_setB, size_drew]; omega)) ?_ )))) hA.2 hAl) rfl rfl ?_
    intro soC wC hBC hEC hkC hzC
    try simp only [size_alloc, size_setB, size_drew] at hzC
    have hb2_C := hkC b2 _ (by simp) (Hb.mk (Hb.h (by repeat (first | assumption | exact Hb.newY _ _ | refine Hb.alloc ?_ | refine Hb.drew ?_ | refine Hb.ext (by assumption) ?_ | exact Hb.setSameL (by first | omega | (simp only [size_alloc, size_setB, size_drew]; omega)) | exact Hb.setSame (by assumption) | refine Hb.set (by first | omega | (simp only [size_alloc, size_setB, size_drew]; omega)) ?_ ))) : Hb _ b2 (.cells (ic .u8 A) 25 (0, 0)))
    have hb4_C := hkC b4 _ (by simp) (Hb.mk (Hb.h (by repeat (first | assumption | exact Hb.newY _ _ | refine Hb.alloc ?_ | refine Hb.drew ?_ | refine Hb.ext (by assumption) ?_ | exact Hb.setSameL (by first | omega | (simp only [size_alloc, size_setB, size_drew]; omega)) | exact Hb.setSame (by assumption) | refine Hb.set (by first | omega | (simp only [size_alloc, size_setB, size_drew]; omega)) ?_ ))) : Hb _ b4 (.cells (ic .u8 (List.replicate 20 0)) 25 (0, 0)))
    have hbQ_C := hkC bQ _ (by simp) (Hb.mk (Hb.h (by repeat (first | assumption | exact Hb.newY _ _ | refine Hb.alloc ?_ | refine Hb.drew ?_ | refine Hb.ext (by assumption) ?_ | exact Hb.setSameL (by first | omega | (simp only [size_alloc, size_setB, size_drew]; omega)) | exact Hb.setSame (by assumption) | refine Hb.set (by first | omega | (simp only [size_alloc, size_setB, size_drew]; omega)) ?_ ))) : Hb _ bQ (.cells rQ TQ fzQ))
    refine WO_p (PS_assign_slice rfl) ?_
    refine WO_nil ?_
    refine thn_normal ?_
    refine W_seq ?_
    refine W_region rfl ?_
    refine WO_p (PS_move_slice rfl) ?_
    refine WO_p (PS_move_slice rfl) ?_
    refine WO_appY (K := ([192 + (21 + ((yrlp a).length : Int)), 148] ++ A)) (M := (yrlp a)) hBC (by repeat (first | assumption | exact Ext.refl _ | refine Ext.alloc ?_ _ | refine Ext.drew ?_ | refine Ext.setB ?_ (by first | omega | (simp only [size_alloc, size_setB, size_drew]; omega)) _ | exact Ext.trans (by assumption) (by assumption) | refine Ext.trans ?_ (by assumption))) (by intro b hb; simp at hb; rcases hb with rfl | rfl | rfl <;> (first | omega | (simp only [size_alloc, size_setB, size_drew]; omega))) (by simp) (by omega) (by simp only [List.length_append, List.length_cons, List.length_nil, hAl]; omega) ⟨rfl, hQ11.cap, hyb, fun _ => ⟨bQ, 0, rQ, TQ, fzQ, rfl, Hb.mk (Hb.h (by repeat (first | assumption | exact Hb.newY _ _ | refine Hb.alloc ?_ | refine Hb.drew ?_ | refine Hb.ext (by assumption) ?_ | exact Hb.setSameL (by first | omega | (simp only [size_alloc, size_setB, size_drew]; omega)) | exact Hb.setSame (by assumption) | refine Hb.set (by first | omega | (simp only [size_alloc, size_setB, size_drew]; omega)) ?_ ))), hrsQ, hXQ⟩⟩ rfl rfl ?_
    intro soD wD hBD hED hkD hzD
    try simp only [size_alloc, size_setB, size_drew] at hzD
    have hb2_D := hkD b2 _ (by simp) (Hb.mk (Hb.h (by repeat (first | assumption | exact Hb.newY _ _ | refine Hb.alloc ?_ | refine Hb.drew ?_ | refine Hb.ext (by assumption) ?_ | exact Hb.setSameL (by first | omega | (simp only [size_alloc, size_setB, size_drew]; omega)) | exact Hb.setSame (by assumption) | refine Hb.set (by first | omega | (simp only [size_alloc, size_setB, size_drew]; omega)) ?_ ))) : Hb _ b2 (.cells (ic .u8 A) 25 (0, 0)))
    have hb4_D := hkD b4 _ (by simp) (Hb.mk (Hb.h (by repeat (first | assumption | exact Hb.newY _ _ | refine Hb.alloc ?_ | refine Hb.drew ?_ | refine Hb.ext (by assumption) ?_ | exact Hb.setSameL (by first | omega | (simp only [size_alloc, size_setB, size_drew]; omega)) | exact Hb.setSame (by assumption) | refine Hb.set (by first | omega | (simp only [size_alloc, size_setB, size_drew]; omega)) ?_ ))) : Hb _ b4 (.cells (ic .u8 (List.replicate 20 0)) 25 (0, 0)))
    have hbQ_D := hkD bQ _ (by simp) (Hb.mk (Hb.h (by repeat (first | assumption | exact Hb.newY _ _ | refine Hb.alloc ?_ | refine Hb.drew ?_ | refine Hb.ext (by assumption) ?_ | exact Hb.setSameL (by first | omega | (simp only [size_alloc, size_setB, size_drew]; omega)) | exact Hb.setSame (by assumption) | refine Hb.set (by first | omega | (simp only [size_alloc, size_setB, size_drew]; omega)) ?_ ))) : Hb _ bQ (.cells rQ TQ fzQ))
    have hbyD : ∀ x ∈ [192 + (21 + ((yrlp a).length : Int)), 148] ++ A ++ yrlp a, 0 ≤ x ∧ x ≤ 255 := by
      intro x hx
      simp only [List.mem_append, List.mem_cons, List.not_mem_nil, al_of] at hx
      rcases hx with ((hx | hx) | hx) | hx
      · omega
      · omega
      · exact hA.2 x hx
      · exact hyb x hx
    refine WO_call Hvac.call80 (by rfl) (Ret.mono (yHashed_spec _ ks hK _ _ _ _ (AB.ext (BL.ab hBD hbyD) (by repeat (first | assumption | exact Ext.refl _ | refine Ext.alloc ?_ _ | refine Ext.drew ?_ | refine Ext.setB ?_ (by first | omega | (simp only [size_alloc, size_setB, size_drew]; omega)) _ | exact Ext.trans (by assumption) (by assumption) | refine Ext.trans ?_ (by assumption)))) (by simp [hAl]; omega)) ?_)
    rintro _ w80_13 ⟨hE80_13, rfl⟩
    have hz80_13 := hE80_13.1
    try simp only [size_alloc, size_setB, size_drew] at hz80_13
    first | refine WO_storeW Hvac.sizeOf25 rfl (v := .agg _) rfl (Hb.h (by repeat (first | assumption | exact Hb.newY _ _ | refine Hb.alloc ?_ | refine Hb.drew ?_ | refine Hb.ext (by assumption) ?_ | exact Hb.setSameL (by first | omega | (simp only [size_alloc, size_setB, size_drew]; omega)) | exact Hb.setSame (by assumption) | refine Hb.set (by first | omega | (simp only [size_alloc, size_setB, size_drew]; omega)) ?_ ))) rfl (by first | omega | assumption | rfl | decide | exact Nat.le_refl _ | (simp only [size_ic, Value.cells]; omega) | (simp [encWs]; done) | (simp; omega) | simp | exact encYA_sz (by assumption) | exact encYT_sz (by assumption) | exact encYM_sz (by assumption)) (by first | omega | assumption | rfl | decide | exact Nat.le_refl _ | (simp only [size_ic, Value.cells]; omega) | (simp [encWs]; done) | (simp; omega) | simp | exact encYA_sz (by assumption) | exact encYT_sz (by assumption) | exact encYM_sz (by assumption)) (by first | exact oneCell_ic | assumption | exact one_Ws2 _ | exact one_YA2 _ | exact one_YSl2 _ | exact one_YM2 _ | exact one_YT2 _ | exact one_L2 _) ?_ | refine WO_store Hvac.sizeOf25 rfl (v := .agg _) rfl (Hb.h (by repeat (first | assumption | exact Hb.newY _ _ | refine Hb.alloc ?_ | refine Hb.drew ?_ | refine Hb.ext (by assumption) ?_ | exact Hb.setSameL (by first | omega | (simp only [size_alloc, size_setB, size_drew]; omega)) | exact Hb.setSame (by assumption) | refine Hb.set (by first | omega | (simp only [size_alloc, size_setB, size_drew]; omega)) ?_ ))) (by first | omega | assumption | rfl | decide | exact Nat.le_refl _ | (simp only [size_ic, Value.cells]; omega) | (simp [encWs]; done) | (simp; omega) | simp | exact encYA_sz (by assumption) | exact encYT_sz (by assumption) | exact encYM_sz (by assumption)) (by first | omega | assumption | rfl | decide | exact Nat.le_refl _ | (simp only [size_ic, Value.cells]; omega) | (simp [encWs]; done) | (simp; omega) | simp | exact encYA_sz (by assumption) | exact encYT_sz (by assumption) | exact encYM_sz (by assumption)) (by first | exact oneCell_ic | assumption | exact one_Ws2 _ | exact one_YA2 _ | exact one_YSl2 _ | exact one_YM2 _ | exact one_YT2 _ | exact one_L2 _) ?_
    refine WO_nil ?_
    refine thn_normal ?_
    refine W_ret ?_
    refine bodyQ_cell1 Hvac.results18 rfl Hvac.isAgg25 Hvac.sizeOf25 rfl (Hb.h (by repeat (first | assumption | exact Hb.newY _ _ | refine Hb.alloc ?_ | refine Hb.drew ?_ | refine Hb.ext (by assumption) ?_ | exact Hb.setSameL (by first | omega | (simp only [size_alloc, size_setB, size_drew]; omega)) | exact Hb.setSame (by assumption) | refine Hb.set (by first | omega | (simp only [size_alloc, size_setB, size_drew]; omega)) ?_ ))) (by first | omega | assumption | rfl | decide | exact Nat.le_refl _ | (simp only [size_ic, Value.cells]; omega) | (simp [encWs]; done) | (simp; omega) | simp | exact encYA_sz (by assumption) | exact encYT_sz (by assumption) | exact encYM_sz (by assumption)) ?_
    exact ⟨(by repeat (first | assumption | exact Ext.refl _ | refine Ext.alloc ?_ _ | refine Ext.drew ?_ | refine Ext.setB ?_ (by first | omega | (simp only [size_alloc, size_setB, size_drew]; omega)) _ | refine Ext.trans ?_ (by assumption))), rfl⟩

end Go.Proofs.YgvacwGreat
