import Derived.Test.YgvacwGreatPb
import Derived.Test.YgvacwGreatPc
namespace Go.Proofs.YgvacwGreat
set_option linter.unusedSimpArgs false
set_option linter.unusedVariables false
theorem AB.at_ {w : World} {p : Option Addr} {n c : Nat} {L : List Int} (h : AB w (p, n, c) L) (h0 : 0 < n) : ∃ b o r T fz, p = some ⟨b, o, none⟩ ∧ Hb w b (.cells r T fz) ∧ o + n ≤ r.size ∧ ∀ i, i < n → Ce r (o + i * 1) (.int .u8 (L.getD i 0)) := by
  obtain ⟨b, o, r, T, fz, h1, h2, h3, h4⟩ := h.row h0
  exact ⟨b, o, r, T, fz, h1, h2, h3, fun i hi => xt_ce1 h4 h.len hi⟩
theorem set_by {L : List Int} {n i : Nat} {x : Int} (h : By L n) (hx : 0 ≤ x ∧ x ≤ 255) : By (L.set i x) n := by
  refine ⟨by rw [List.length_set]; exact h.1, fun y hy => ?_⟩
  rcases List.mem_or_eq_of_mem_set hy with hy | rfl
  · exact h.2 y hy
  · exact hx
theorem rep_by (n : Nat) : By (List.replicate n 0) n := ⟨List.length_replicate, by intro x hx; rw [(List.mem_replicate.1 hx).2]; omega⟩
theorem nat_eq_of_gd {n : Nat} {L : List Int} (h : ∀ x ∈ L, 0 ≤ x ∧ x ≤ 255) (hl : sz n ≤ L.length) (hd : ∀ i, i < L.length → L.getD i 0 = (dg n).getD i 0) : dv L = n := by
  have h1 : dv (dg n ++ List.replicate (L.length - sz n) 0) = n := by rw [dv_append, dv_rep0, dv_dg]; omega
  have : L = dg n ++ List.replicate (L.length - sz n) 0 := by
    refine gd_ext (by simp [dg_len]; omega) fun i hi => ?_
    rw [hd i hi]
    rcases Nat.lt_or_ge i (sz n) with h2 | h2
    · rw [List.getD_eq_getElem?_getD, List.getD_eq_getElem?_getD, List.getElem?_append_left (by rw [dg_len]; exact h2)]
    · rw [gd_ge (by rw [dg_len]; exact h2), List.getD_eq_getElem?_getD, List.getElem?_append_right (by rw [dg_len]; exact h2), ← List.getD_eq_getElem?_getD, gd_rep]
  rw [this]; exact h1

set_option maxRecDepth 10000 in
set_option maxHeartbeats 4000000 in
theorem fromBEX_spec [Om] (s : SV) (L : List Int) (w : World) (hO : OmB w) (hs : AB w s L) (hm : s.2.1 ≤ 100000000) : Ret Hvac.prog 29 #[.slice s.1 s.2.1 s.2.2] w fun u w' => Ext w w' ∧ ∃ s' : SV, u = .slice s'.1 s'.2.1 s'.2.2 ∧ NN w' s' (bvY L) := by
  obtain ⟨p, n, cp⟩ := s
  have hlc := hs.cap
  have hln := hs.len
  have hby := hs.by_
  dsimp only at hlc hln hby hm ⊢
  
  refine Ret_of_W Hvac.func29 rfl rfl ?_
  refine W_seq ?_
  refine W_region rfl ?_
  refine WO_p (PS_assign_slice rfl) ?_
  refine WO_nil ?_
  refine thn_normal ?_
  refine W_seq ?_
  refine W_region rfl ?_
  refine WO_p (PS_assign_int rfl) ?_
  refine WO_nil ?_
  refine thn_normal ?_
  refine W_seq ?_
  refine W_block ?_
  refine W_loopN (fun k ρ w' => ∃ (i : Nat), i + k = n ∧ (∀ j, j < i → L.getD j 0 = 0) ∧ Fr [(0, .slice p n cp), (3, .int .i64 i)] ρ ∧ Ext w w') n ?_ ?_
  · exact ⟨0, by omega, fun j h => absurd h (Nat.not_lt_zero j), ⟨rfl, rfl, trivial⟩, (by repeat (first | assumption | exact Ext.refl _ | refine Ext.alloc ?_ _ | refine Ext.drew ?_ | refine Ext.setB ?_ (by first | omega | (simp only [size_alloc, size_setB, size_drew]; omega)) _ | refine Ext.trans ?_ (by assumption)))⟩
  intro k2 ρ2 w2 hI2
  obtain ⟨i, hik, hzz, hFr2, hE2⟩ := hI2
  refine W_env _ hFr2 ?_
  have hz2 := hE2.1
  refine W_seq ?_
  refine W_seq ?_
  refine W_region rfl ?_
  refine WO_p (PS_move_int rfl) ?_
  refine WO_p (PS_move_slice rfl) ?_
  refine WO_p (PS_lenS Hvac.runUnderlying32 rfl) ?_
  refine WO_p (PS_lss rfl rfl) ?_
  refine WO_p (PS_move_bool rfl) ?_
  refine WO_if (t := 10) rfl (fun hb2 => ?_) (fun hb2 => ?_)
  · have hb2p := hb2.h; try simp only [al_ete, al_dfn, Bool.not_eq_true', Bool.not_eq_false', al_ne, Bool.not_not, al_nn] at hb2p
    obtain ⟨b, o, r, T, fz, hp, hb, hrs, hat⟩ := hs.at_ (by omega)
    subst hp
    have hce := hat i (by omega)
    have hbE := hb.ext hE2
    refine WO_guardT rfl rfl hb2.h ?_
    refine WO_p (PS_move_slice rfl) ?_
    refine WO_guardT rfl rfl hb2.h ?_
    refine WO_p (PS_move_int rfl) ?_
    refine WO_guardT rfl rfl hb2.h ?_
    refine WO_p (PS_indexS Hvac.runUnderlying32 Hvac.sizeOf5 rfl rfl (by omega) (by omega)) ?_
    refine WO_guardT rfl rfl hb2.h ?_
    refine WO_load (.int _ _) Hvac.isAgg5 rfl (Hb.h (by repeat (first | assumption | exact Hb.newY _ _ | refine Hb.alloc ?_ | refine Hb.drew ?_ | refine Hb.ext (by assumption) ?_ | exact Hb.setSameL (by first | omega | (simp only [size_alloc, size_setB, size_drew]; omega)) | exact Hb.setSame (by assumption) | refine Hb.set (by first | omega | (simp only [size_alloc, size_setB, size_drew]; omega)) ?_ ))) (Ce.h (by first | assumption | exact ⟨rfl⟩)) ?_
    refine WO_guardT rfl rfl hb2.h ?_
    refine WO_p (PS_eql rfl rfl) ?_
    refine WO_p (PS_pickT rfl hb2.h rfl) ?_
    refine WO_nil ?_
    refine thn_normal ?_
    refine W_if rfl (fun hb4 => ?_) (fun hb4 => ?_)
    · have hb4p := hb4.h; try simp only [al_ete, al_dfn, Bool.not_eq_true', Bool.not_eq_false', al_ne, Bool.not_not, al_nn] at hb4p
      have htt := hb4p
      refine W_skip ?_
      refine thn_normal ?_
      refine W_block ?_
      refine W_region rfl ?_
      refine WO_p (PS_move_int rfl) ?_
      refine WO_p (PS_add_i64n rfl rfl (by omega) (by omega)) ?_
      refine WO_p (PS_assign_int rfl) ?_
      refine WO_nil ?_
      refine inBlk_normal ?_
      refine thn_normal ?_
      exact ⟨k2 - 1, by omega, i + 1, by omega, fun j hj => by
        rcases Nat.lt_or_ge j i with h3 | h3
        · exact hzz j h3
        · rw [show j = i by omega]; exact htt, ⟨rfl, congrArg (Value.int .i64) (by omega), trivial⟩, (by repeat (first | assumption | exact Ext.refl _ | refine Ext.alloc ?_ _ | refine Ext.drew ?_ | refine Ext.setB ?_ (by first | omega | (simp only [size_alloc, size_setB, size_drew]; omega)) _ | refine Ext.trans ?_ (by assumption)))⟩
    · have hb4p := hb4.h; try simp only [al_ete, al_dfn, Bool.not_eq_true', Bool.not_eq_false', al_ne, Bool.not_not, al_nn] at hb4p
      have htt := hb4p
      refine W_exit ?_
      refine thn_exit ?_
      refine thn_exit ?_
      refine inBlk_exit ?_
      refine thn_normal ?_
      refine W_seq ?_
      refine W_seq ?_
      refine W_region rfl ?_
      refine WO_p (PS_move_int rfl) ?_
      refine WO_p (PS_move_slice rfl) ?_
      refine WO_p (PS_lenS Hvac.runUnderlying32 rfl) ?_
      refine WO_p (PS_eql rfl rfl) ?_
      refine WO_nil ?_
      refine thn_normal ?_
      refine W_if rfl (fun hb6 => ?_) (fun hb6 => ?_)
      · have hb6p := hb6.h; try simp only [al_ete, al_dfn, Bool.not_eq_true', Bool.not_eq_false', al_ne, Bool.not_not, al_nn] at hb6p
        have hin : i = n := by omega
        refine W_seq ?_
        refine W_region rfl ?_
        refine WO_p (PS_assign_slice rfl) ?_
        refine WO_nil ?_
        refine thn_normal ?_
        refine W_ret ?_
        refine thn_ret ?_
        refine bodyQ_ret1 Hvac.results29 rfl (.slice _ _ _) rfl ?_
        first
        | (refine ⟨(by repeat (first | assumption | exact Ext.refl _ | refine Ext.alloc ?_ _ | refine Ext.drew ?_ | refine Ext.setB ?_ (by first | omega | (simp only [size_alloc, size_setB, size_drew]; omega)) _ | refine Ext.trans ?_ (by assumption))), (none, 0, 0), rfl, ?_⟩
           rw [bv_zeros (L := L) (fun q hq => hzz q (by omega))]; exact NN.nil _)
        | (have hMe : dg (bvY L) = M := by
             rw [dg_be hby (i := i) (by omega) hzz htt]
             refine gd_ext (by simp [hL.1]; omega) fun q hq => ?_
             simp at hq
             rw [hdone q (by omega), gd_rev _ _ (by simp; omega), gd_drop]
             congr 1; simp; omega
           refine ⟨(by repeat (first | assumption | exact Ext.refl _ | refine Ext.alloc ?_ _ | refine Ext.drew ?_ | refine Ext.setB ?_ (by first | omega | (simp only [size_alloc, size_setB, size_drew]; omega)) _ | refine Ext.trans ?_ (by assumption))), (some ⟨b4, 0, none⟩, n1, n1), rfl, ?_⟩
           unfold NN
           rw [hMe]
           exact PB.newY hbp3 hfr hL.2 hL.1)
      · have hb6p := hb6.h; try simp only [al_ete, al_dfn, Bool.not_eq_true', Bool.not_eq_false', al_ne, Bool.not_not, al_nn] at hb6p
        obtain ⟨n1, hn1⟩ : ∃ n1 : Nat, (n : Int) - (i : Int) = (n1 : Int) := ⟨n - i, by omega⟩
        refine W_skip ?_
        refine thn_normal ?_
        refine W_seq ?_
        refine W_region rfl ?_
        refine WO_p (PS_move_slice rfl) ?_
        refine WO_p (PS_lenS Hvac.runUnderlying32 rfl) ?_
        refine WO_p (PS_move_int rfl) ?_
        refine WO_p (PS_sub_i64n rfl rfl (by omega) (by omega)) ?_
        rw [hn1]
        refine WO_make (z := .int .u8 0) Hvac.underlying92 info5 rfl rfl rfl (by omega) (by omega) (by show (1:Int) * _ ≤ _; omega) (by omega) ?_
        rw [show ((n1:Int)).toNat = n1 from Int.toNat_natCast _, show madeCells (Value.int IntKind.u8 0).cells (n1 * Hvac.t5.size) = ic .u8 (List.replicate n1 0) from by rw [show Hvac.t5.size = 1 from rfl, Nat.mul_one]; exact made_ic .u8 _]
        apply WO_gen4; intro w27 hw27
        have hb27 : Hb w27 w2.heap.size (.cells (ic .u8 (List.replicate n1 0)) 5 (0, 0)) := by rw [hw27]; exact Hb.newY _ _
        have hE27 : Ext w w27 := by rw [hw27]; exact Ext.alloc hE2 _
        have hfr := hO.fresh hE2.1
        have hz27 := hE2.1
        generalize w2.heap.size = b4 at *
        clear hw27
        refine WO_p (PS_assign_slice rfl) ?_
        refine WO_nil ?_
        refine thn_normal ?_
        refine W_seq ?_
        refine W_seq ?_
        refine W_region rfl ?_
        refine WO_p (PS_move_slice rfl) ?_
        refine WO_p (PS_lenS Hvac.runUnderlying92 rfl) ?_
        refine WO_p (PS_move_int rfl) ?_
        refine WO_nil ?_
        refine thn_normal ?_
        refine W_block ?_
        refine W_loopN (fun k ρ w' => ∃ (j : Nat) (M : List Int), j + k = n1 ∧ By M n1 ∧ (∀ q, q < j → M.getD q 0 = L.getD (n - 1 - q) 0) ∧ Fr [(0, .slice (some ⟨b, o, none⟩) n cp), (4, .slice (some ⟨b4, 0, none⟩) n1 n1), (29, .int .i64 n1), (30, .int .i64 j)] ρ ∧ Ext w w' ∧ Hb w' b4 (.cells (ic .u8 M) 5 (0, 0))) n1 ?_ ?_
        · exact ⟨0, List.replicate n1 0, by omega, rep_by n1, fun q h => absurd h (Nat.not_lt_zero q), ⟨rfl, rfl, rfl, rfl, trivial⟩, hE27, hb27⟩
        intro k3 ρ3 w3 hI3
        obtain ⟨j, M, hjk, hL, hdone, hFr3, hE3, hbp3⟩ := hI3
        refine W_env _ hFr3 ?_
        have hz3 := hE3.1
        refine W_seq ?_
        refine W_region rfl ?_
        refine WO_p (PS_lss rfl rfl) ?_
        refine WO_nil ?_
        refine thn_normal ?_
        refine W_seq ?_
        refine W_if rfl (fun hb8 => ?_) (fun hb8 => ?_)
        · have hb8p := hb8.h; try simp only [al_ete, al_dfn, Bool.not_eq_true', Bool.not_eq_false', al_ne, Bool.not_not, al_nn] at hb8p
          have hj3 : ((n : Int) - 1 - (j : Int)).toNat = n - 1 - j := by omega
          have hce : Ce r (o + ((n : Int) - 1 - (j : Int)).toNat * 1) (.int .u8 (L.getD (n - 1 - j) 0)) := by rw [hj3]; exact hat _ (by omega)
          have hgb := gd_by hby (n - 1 - j)
          have hbE := hb.ext hE3
          refine W_skip ?_
          refine thn_normal ?_
          refine W_seq ?_
          refine W_block ?_
          refine W_seq ?_
          refine W_region rfl ?_
          refine WO_p (PS_move_int rfl) ?_
          refine WO_p (PS_assign_int rfl) ?_
          refine WO_nil ?_
          refine thn_normal ?_
          refine W_region rfl ?_
          refine WO_p (PS_move_slice rfl) ?_
          refine WO_p (PS_move_int rfl) ?_
          refine WO_p (PS_move_slice rfl) ?_
          refine WO_p (PS_move_slice rfl) ?_
          refine WO_p (PS_lenS Hvac.runUnderlying32 rfl) ?_
          refine WO_p (PS_sub_i64n rfl rfl (by omega) (by omega)) ?_
          refine WO_p (PS_move_int rfl) ?_
          refine WO_p (PS_sub_i64n rfl rfl (by omega) (by omega)) ?_
          refine WO_p (PS_indexS Hvac.runUnderlying32 Hvac.sizeOf5 rfl rfl (by omega) (by omega)) ?_
          refine WO_load (.int _ _) Hvac.isAgg5 rfl (Hb.h (by repeat (first | assumption | exact Hb.newY _ _ | refine Hb.alloc ?_ | refine Hb.drew ?_ | refine Hb.ext (by assumption) ?_ | exact Hb.setSameL (by first | omega | (simp only [size_alloc, size_setB, size_drew]; omega)) | exact Hb.setSame (by assumption) | refine Hb.set (by first | omega | (simp only [size_alloc, size_setB, size_drew]; omega)) ?_ ))) (Ce.h (by first | assumption | exact ⟨rfl⟩)) ?_
          refine WO_p (PS_indexS Hvac.runUnderlying92 Hvac.sizeOf5 rfl rfl (by omega) (by omega)) ?_
          refine WO_store1 Hvac.sizeOf5 rfl (v := .int _ _) rfl hbp3.h rfl (by rw [size_ic, hL.1]; omega) rfl ?_
          rw [show ((j : Int)).toNat = j from Int.toNat_natCast j, ic_set]
          refine WO_nil ?_
          refine inBlk_normal ?_
          refine thn_normal ?_
          refine W_region rfl ?_
          refine WO_p (PS_add_i64n rfl rfl (by omega) (by omega)) ?_
          refine WO_p (PS_move_int rfl) ?_
          refine WO_nil ?_
          refine thn_normal ?_
          exact ⟨k3 - 1, by omega, j + 1, _, by omega, set_by hL hgb, fun q hq => by
            rw [gd_set _ _ _ _ (by rw [hL.1]; omega)]
            split
            · rename_i e; rw [e]
            · exact hdone q (by omega), ⟨rfl, rfl, rfl, congrArg (Value.int .i64) (by omega), trivial⟩, Ext.setB hE3 (by omega) _, Hb.setSame hbp3⟩
        · have hb8p := hb8.h; try simp only [al_ete, al_dfn, Bool.not_eq_true', Bool.not_eq_false', al_ne, Bool.not_not, al_nn] at hb8p
          refine W_exit ?_
          refine thn_exit ?_
          refine thn_exit ?_
          refine inBlk_exit ?_
          refine thn_normal ?_
          refine W_seq ?_
          refine W_region rfl ?_
          refine WO_p (PS_move_slice rfl) ?_
          refine WO_p (PS_assign_slice rfl) ?_
          refine WO_nil ?_
          refine thn_normal ?_
          refine W_ret ?_
          refine bodyQ_ret1 Hvac.results29 rfl (.slice _ _ _) rfl ?_
          first
          | (refine ⟨(by repeat (first | assumption | exact Ext.refl _ | refine Ext.alloc ?_ _ | refine Ext.drew ?_ | refine Ext.setB ?_ (by first | omega | (simp only [size_alloc, size_setB, size_drew]; omega)) _ | refine Ext.trans ?_ (by assumption))), (none, 0, 0), rfl, ?_⟩
             rw [bv_zeros (L := L) (fun q hq => hzz q (by omega))]; exact NN.nil _)
          | (have hMe : dg (bvY L) = M := by
               rw [dg_be hby (i := i) (by omega) hzz htt]
               refine gd_ext (by simp [hL.1]; omega) fun q hq => ?_
               simp at hq
               rw [hdone q (by omega), gd_rev _ _ (by simp; omega), gd_drop]
               congr 1; simp; omega
             refine ⟨(by repeat (first | assumption | exact Ext.refl _ | refine Ext.alloc ?_ _ | refine Ext.drew ?_ | refine Ext.setB ?_ (by first | omega | (simp only [size_alloc, size_setB, size_drew]; omega)) _ | refine Ext.trans ?_ (by assumption))), (some ⟨b4, 0, none⟩, n1, n1), rfl, ?_⟩
             unfold NN
             rw [hMe]
             exact PB.newY hbp3 hfr hL.2 hL.1)
  · have hb2p := hb2.h; try simp only [al_ete, al_dfn, Bool.not_eq_true', Bool.not_eq_false', al_ne, Bool.not_not, al_nn] at hb2p
    refine WO_guardF rfl rfl hb2.h ?_
    refine WO_guardF rfl rfl hb2.h ?_
    refine WO_guardF rfl rfl hb2.h ?_
    refine WO_guardF rfl rfl hb2.h ?_
    refine WO_guardF rfl rfl hb2.h ?_
    refine WO_p (PS_pickF rfl hb2.h rfl) ?_
    refine WO_nil ?_
    refine thn_normal ?_
    refine W_condF rfl rfl ?_
    refine W_exit ?_
    refine thn_exit ?_
    refine thn_exit ?_
    refine inBlk_exit ?_
    refine thn_normal ?_
    refine W_seq ?_
    refine W_seq ?_
    refine W_region rfl ?_
    refine WO_p (PS_move_int rfl) ?_
    refine WO_p (PS_move_slice rfl) ?_
    refine WO_p (PS_lenS Hvac.runUnderlying32 rfl) ?_
    refine WO_p (PS_eql rfl rfl) ?_
    refine WO_nil ?_
    refine thn_normal ?_
    refine W_if rfl (fun hb10 => ?_) (fun hb10 => ?_)
    · have hb10p := hb10.h; try simp only [al_ete, al_dfn, Bool.not_eq_true', Bool.not_eq_false', al_ne, Bool.not_not, al_nn] at hb10p
      have hin : i = n := by omega
      refine W_seq ?_
      refine W_region rfl ?_
      refine WO_p (PS_assign_slice rfl) ?_
      refine WO_nil ?_
      refine thn_normal ?_
      refine W_ret ?_
      refine thn_ret ?_
      refine bodyQ_ret1 Hvac.results29 rfl (.slice _ _ _) rfl ?_
      first
      | (refine ⟨(by repeat (first | assumption | exact Ext.refl _ | refine Ext.alloc ?_ _ | refine Ext.drew ?_ | refine Ext.setB ?_ (by first | omega | (simp only [size_alloc, size_setB, size_drew]; omega)) _ | refine Ext.trans ?_ (by assumption))), (none, 0, 0), rfl, ?_⟩
         rw [bv_zeros (L := L) (fun q hq => hzz q (by omega))]; exact NN.nil _)
      | (have hMe : dg (bvY L) = M := by
           rw [dg_be hby (i := i) (by omega) hzz htt]
           refine gd_ext (by simp [hL.1]; omega) fun q hq => ?_
           simp at hq
           rw [hdone q (by omega), gd_rev _ _ (by simp; omega), gd_drop]
           congr 1; simp; omega
         refine ⟨(by repeat (first | assumption | exact Ext.refl _ | refine Ext.alloc ?_ _ | refine Ext.drew ?_ | refine Ext.setB ?_ (by first | omega | (simp only [size_alloc, size_setB, size_drew]; omega)) _ | refine Ext.trans ?_ (by assumption))), (some ⟨b4, 0, none⟩, n1, n1), rfl, ?_⟩
         unfold NN
         rw [hMe]
         exact PB.newY hbp3 hfr hL.2 hL.1)
    · have hb10p := hb10.h; try simp only [al_ete, al_dfn, Bool.not_eq_true', Bool.not_eq_false', al_ne, Bool.not_not, al_nn] at hb10p
      exfalso; omega --END

end Go.Proofs.YgvacwGreat
