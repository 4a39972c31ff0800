import Derived.Test.YgvadwGreatKb
namespace Go.Proofs.YgvadwGreat
set_option linter.unusedSimpArgs false
set_option linter.unusedVariables false
/-! the map of the jump destinations -/
def scanGo (L : List Int) : Nat → Nat → List Int → List Int
  | 0, _, M => M
  | k + 1, i, M => if L.length ≤ i then M else scanGo L k (i + 1 + (immOf (L.getD i 0)).toNat)
      (if L.getD i 0 = 91 then M.set (i / 64) (bOr (M.getD (i / 64) 0) (1 * 2 ^ (min ((i : Int) % 64).toNat 64) % 18446744073709551616)) else M)
def scanW (L : List Int) : List Int := if 512 < L.length then [0, 0, 0, 0, 0, 0, 0, 0] else scanGo L L.length 0 [0, 0, 0, 0, 0, 0, 0, 0]
theorem scanGo_end {L : List Int} {k i : Nat} {M : List Int} (h : L.length ≤ i) : scanGo L k i M = M := by
  cases k with
  | zero => rfl
  | succ k => unfold scanGo; rw [if_pos h]
theorem xt_ce {r : Array Value} {o n : Nat} {k : IntKind} {L : List Int} (h : Xt r o (o + n * 1) (ic k L)) (hn : L.length = n) {i : Nat} (hi : i < n) : Ce r (o + i * 1) (.int k (L.getD i 0)) := by
  refine ⟨?_⟩
  have e : (r.extract o (o + n * 1))[i]? = (ic k L)[i]? := by rw [h.h]
  rw [Array.getElem?_extract, ic_get, List.getElem?_eq_getElem (by omega)] at e
  split at e
  · rw [Nat.mul_one, e, List.getD_eq_getElem?_getD, List.getElem?_eq_getElem (by omega)]; rfl
  · cases e
theorem getD_by {L : List Int} (h : By8 L) (i : Nat) : 0 ≤ L.getD i 0 ∧ L.getD i 0 ≤ 255 := by
  rw [List.getD_eq_getElem?_getD]
  cases hk : L[i]? with
  | none => simp
  | some x => exact h x (List.mem_of_getElem? hk)
theorem immOf_bd (o : Int) : 0 ≤ immOf o ∧ immOf o ≤ 32 := by unfold immOf; split <;> omega

set_option maxRecDepth 10000 in
set_option maxHeartbeats 4000000 in
theorem scan_spec (s : SV) (L : List Int) (w : World) (hs : SC w .u8 1 s L) (hL : By8 L) (hl : s.2.1 ≤ 1000000) : Ret Hvad.prog 82 #[.slice s.1 s.2.1 s.2.2] w fun u w' => Ext w w' ∧ u = .agg (ic .u64 (scanW L)) ∧ (scanW L).length = 8 ∧ UL (scanW L) := by
  obtain ⟨p, n, cp⟩ := s
  obtain ⟨hsl, hs2⟩ := hs
  dsimp only at hsl hs2 hl ⊢
  have hLn : L.length = n := by omega
  have hz8 : UL [0, 0, 0, 0, 0, 0, 0, 0] := by intro x hx; simp at hx; omega
  generalize hR : scanW L = R
  refine Ret_of_W Hvad.func82 rfl rfl ?_
  refine W_seq ?_
  refine W_region rfl ?_
  refine WO_allocG Hvad.zeroValue63 ?_
  intro b2 v2 hg2 hE2 hH2 hl2
  try simp only [size_alloc, size_setB, size_drew] at hg2
  have hzz2 := hE2.1
  try simp only [size_alloc, size_setB, size_drew] at hzz2
  replace hH2 : Hb v2 b2 (.cells (ic .u64 [0, 0, 0, 0, 0, 0, 0, 0]) 63 (0, 0)) := hH2
  refine WO_nil ?_
  refine thn_normal ?_
  refine W_seq ?_
  refine W_region rfl ?_
  refine WO_allocG Hvad.zeroValue63 ?_
  intro b3 v3 hg3 hE3 hH3 hl3
  try simp only [size_alloc, size_setB, size_drew] at hg3
  have hzz3 := hE3.1
  try simp only [size_alloc, size_setB, size_drew] at hzz3
  replace hH3 : Hb v3 b3 (.cells (ic .u64 [0, 0, 0, 0, 0, 0, 0, 0]) 63 (0, 0)) := hH3
  refine WO_nil ?_
  refine thn_normal ?_
  refine W_seq ?_
  refine W_seq ?_
  refine W_region rfl ?_
  refine WO_p (PS_move_slice rfl) ?_
  refine WO_p (PS_lenS Hvad.runUnderlying32 rfl) ?_
  refine WO_p (PS_gtr rfl rfl) ?_
  refine WO_nil ?_
  refine thn_normal ?_
  refine W_if rfl (fun hb2 => ?_) (fun hb2 => ?_)
  · have hb2p := hb2.h; try simp only [al_ete, al_dfn, Bool.not_eq_true', Bool.not_eq_false', al_ne, Bool.not_not, al_nn] at hb2p
    have hR8 : R = [0, 0, 0, 0, 0, 0, 0, 0] := by rw [← hR]; unfold scanW; rw [if_pos (by omega)]
    subst hR8
    refine W_seq ?_
    refine W_region rfl ?_
    refine WO_loadA _ Hvad.isAgg63 Hvad.sizeOf63 rfl (Hb.h (by repeat (first | assumption | exact Hb.newY _ _ | refine Hb.alloc ?_ | refine Hb.drew ?_ | refine Hb.ext (by assumption) ?_ | exact Hb.setSameL (by first | omega | (simp only [size_alloc, size_setB, size_drew]; omega)) | exact Hb.setSame (by assumption) | refine Hb.set (by first | omega | (simp only [size_alloc, size_setB, size_drew]; omega)) ?_ ))) (by first | omega | assumption | rfl | decide | exact Nat.le_refl _ | (simp only [size_ic, Value.cells]; omega) | simp) (Xt.h (by first | assumption | exact Xt.whole rfl rfl | exact Xt.whole rfl (by simp only [size_ic, Value.cells]; omega) | exact ⟨rfl⟩)) ?_
    first | refine WO_storeW Hvad.sizeOf63 rfl (v := .agg _) rfl (Hb.h (by repeat (first | assumption | exact Hb.newY _ _ | refine Hb.alloc ?_ | refine Hb.drew ?_ | refine Hb.ext (by assumption) ?_ | exact Hb.setSameL (by first | omega | (simp only [size_alloc, size_setB, size_drew]; omega)) | exact Hb.setSame (by assumption) | refine Hb.set (by first | omega | (simp only [size_alloc, size_setB, size_drew]; omega)) ?_ ))) rfl (by first | omega | assumption | rfl | decide | exact Nat.le_refl _ | (simp only [size_ic, Value.cells]; omega) | simp) (by first | omega | assumption | rfl | decide | exact Nat.le_refl _ | (simp only [size_ic, Value.cells]; omega) | simp) (by first | exact oneCell_ic | assumption) ?_ | refine WO_store Hvad.sizeOf63 rfl (v := .agg _) rfl (Hb.h (by repeat (first | assumption | exact Hb.newY _ _ | refine Hb.alloc ?_ | refine Hb.drew ?_ | refine Hb.ext (by assumption) ?_ | exact Hb.setSameL (by first | omega | (simp only [size_alloc, size_setB, size_drew]; omega)) | exact Hb.setSame (by assumption) | refine Hb.set (by first | omega | (simp only [size_alloc, size_setB, size_drew]; omega)) ?_ ))) (by first | omega | assumption | rfl | decide | exact Nat.le_refl _ | (simp only [size_ic, Value.cells]; omega) | simp) (by first | omega | assumption | rfl | decide | exact Nat.le_refl _ | (simp only [size_ic, Value.cells]; omega) | simp) (by first | exact oneCell_ic | assumption) ?_
    refine WO_nil ?_
    refine thn_normal ?_
    refine W_ret ?_
    refine thn_ret ?_
    refine bodyQ_cell1 Hvad.results82 rfl Hvad.isAgg63 Hvad.sizeOf63 rfl (Hb.h (by repeat (first | assumption | exact Hb.newY _ _ | refine Hb.alloc ?_ | refine Hb.drew ?_ | refine Hb.ext (by assumption) ?_ | exact Hb.setSameL (by first | omega | (simp only [size_alloc, size_setB, size_drew]; omega)) | exact Hb.setSame (by assumption) | refine Hb.set (by first | omega | (simp only [size_alloc, size_setB, size_drew]; omega)) ?_ ))) (by first | omega | assumption | rfl | decide | exact Nat.le_refl _ | (simp only [size_ic, Value.cells]; omega) | simp) ?_
    exact ⟨(by repeat (first | assumption | exact Ext.refl _ | refine Ext.alloc ?_ _ | refine Ext.drew ?_ | refine Ext.setB ?_ (by first | omega | (simp only [size_alloc, size_setB, size_drew]; omega)) _ | refine Ext.trans ?_ (by assumption))), rfl, by first | exact hMl | rfl, by first | exact hMu | exact hz8⟩
  · have hb2p := hb2.h; try simp only [al_ete, al_dfn, Bool.not_eq_true', Bool.not_eq_false', al_ne, Bool.not_not, al_nn] at hb2p
    have hR0 : scanGo L n 0 [0, 0, 0, 0, 0, 0, 0, 0] = R := by rw [← hR]; unfold scanW; rw [if_neg (by omega), hLn]
    refine W_skip ?_
    refine thn_normal ?_
    refine W_seq ?_
    refine W_seq ?_
    refine W_region rfl ?_
    refine WO_p (PS_assign_int rfl) ?_
    refine WO_nil ?_
    refine thn_normal ?_
    refine W_block ?_
    refine W_loopN (fun k ρ w' => ∃ (i : Nat) (M : List Int), n ≤ k + i ∧ i ≤ 1000 ∧ scanGo L k i M = R ∧ M.length = 8 ∧ UL M ∧ Fr [(0, .slice p n cp), (2, .pointer (some ⟨b2, 0, none⟩)), (3, .pointer (some ⟨b3, 0, none⟩)), (4, .int .i64 i)] ρ ∧ Ext w w' ∧ v3.heap.size ≤ w'.heap.size ∧ Hb w' b3 (.cells (ic .u64 M) 63 (0, 0)) ∧ Hb w' b2 (.cells (ic .u64 [0, 0, 0, 0, 0, 0, 0, 0]) 63 (0, 0))) n ?_ ?_
    · exact ⟨0, _, by omega, by omega, hR0, rfl, hz8, ⟨rfl, rfl, rfl, rfl, trivial⟩, (by repeat (first | assumption | exact Ext.refl _ | refine Ext.alloc ?_ _ | refine Ext.drew ?_ | refine Ext.setB ?_ (by first | omega | (simp only [size_alloc, size_setB, size_drew]; omega)) _ | refine Ext.trans ?_ (by assumption))), Nat.le_refl _, hH3, Hb.ext hE3 hH2⟩
    intro k ρ w2 hI2
    obtain ⟨i, M, hki, hi1, hgo, hMl, hMu, hFr, hE2, hz32, hb3, hb2x⟩ := hI2
    refine W_env _ hFr ?_
    have hz2 := hE2.1
    refine W_seq ?_
    refine W_seq ?_
    refine W_region rfl ?_
    refine WO_p (PS_move_int rfl) ?_
    refine WO_p (PS_move_slice rfl) ?_
    refine WO_p (PS_lenS Hvad.runUnderlying32 rfl) ?_
    refine WO_p (PS_lss rfl rfl) ?_
    refine WO_nil ?_
    refine thn_normal ?_
    refine W_if rfl (fun hb4 => ?_) (fun hb4 => ?_)
    · have hb4p := hb4.h; try simp only [al_ete, al_dfn, Bool.not_eq_true', Bool.not_eq_false', al_ne, Bool.not_not, al_nn] at hb4p
      obtain ⟨b, o, r, T, fz, hp, hb, hon, hxt⟩ := hs2.resolve_left (fun h => by omega)
      subst hp
      have hbl := hb.lt
      have hce : Ce r (o + i * 1) (.int .u8 (L.getD i 0)) := xt_ce hxt hLn (by omega)
      have hcb := getD_by hL i
      have him := immOf_bd (L.getD i 0)
      obtain ⟨k', rfl⟩ : ∃ k', k = k' + 1 := ⟨k - 1, by omega⟩
      unfold scanGo at hgo
      rw [if_neg (by omega)] at hgo
      refine W_skip ?_
      refine thn_normal ?_
      refine W_seq ?_
      refine W_block ?_
      refine W_seq ?_
      refine W_region rfl ?_
      refine WO_p (PS_move_slice rfl) ?_
      refine WO_p (PS_move_int rfl) ?_
      refine WO_p (PS_indexS Hvad.runUnderlying32 Hvad.sizeOf5 rfl rfl (by omega) (by omega)) ?_
      refine WO_load (.int _ _) Hvad.isAgg5 rfl (Hb.h (by repeat (first | assumption | exact Hb.newY _ _ | refine Hb.alloc ?_ | refine Hb.drew ?_ | refine Hb.ext (by assumption) ?_ | exact Hb.setSameL (by first | omega | (simp only [size_alloc, size_setB, size_drew]; omega)) | exact Hb.setSame (by assumption) | refine Hb.set (by first | omega | (simp only [size_alloc, size_setB, size_drew]; omega)) ?_ ))) (Ce.h (by first | assumption | exact ⟨rfl⟩)) ?_
      refine WO_p (PS_eql rfl rfl) ?_
      refine WO_nil ?_
      refine thn_normal ?_
      refine W_if rfl (fun hb6 => ?_) (fun hb6 => ?_)
      · have hb6p := hb6.h; try simp only [al_ete, al_dfn, Bool.not_eq_true', Bool.not_eq_false', al_ne, Bool.not_not, al_nn] at hb6p
        rw [if_pos hb6p] at hgo
        have hceM : Ce (ic .u64 M) (0 + i / 64 * 1) (.int .u64 (M.getD (i / 64) 0)) := ce_ic (by omega)
        refine W_drawE [false, false, false, false, false, false, false, false, false, false] hmix (by kernel_rfl) rfl ?_
        refine WH_p (PS_move_int rfl) rfl ?_
        refine WH_p (PS_quo_i64 rfl rfl (by omega) (by omega) (by omega)) rfl ?_
        refine WH_p (PS_indexA Hvad.runUnderlying63 Hvad.sizeOf26 rfl rfl (by omega) (by omega)) rfl ?_
        refine WH_load (.int _ _) Hvad.isAgg26 rfl (Hb.h (by repeat (first | assumption | exact Hb.newY _ _ | refine Hb.alloc ?_ | refine Hb.drew ?_ | refine Hb.ext (by assumption) ?_ | exact Hb.setSameL (by first | omega | (simp only [size_alloc, size_setB, size_drew]; omega)) | exact Hb.setSame (by assumption) | refine Hb.set (by first | omega | (simp only [size_alloc, size_setB, size_drew]; omega)) ?_ ))) (Ce.h (by first | assumption | exact ⟨rfl⟩)) ?_
        refine WH_p (PS_move_int rfl) rfl ?_
        refine WH_p (PS_rem_i64 rfl rfl (by omega) (by omega)) rfl ?_
        refine WH_p (PS_shl_u64 _ rfl rfl (by omega) rfl) rfl ?_
        refine WH_p (PS_or_u64 rfl rfl) rfl ?_
        refine WH_p (PS_indexA Hvad.runUnderlying63 Hvad.sizeOf26 rfl rfl (by omega) (by omega)) rfl ?_
        refine WH_store1 Hvad.sizeOf26 rfl (v := .int _ _) rfl (Hb.h (Hb.drew hb3)) rfl (by rw [size_ic]; omega) rfl (fun h => by cases h) ?_
        rw [ic_set, show ((i : Int) / 64).toNat = i / 64 from by omega]
        have hM4 : (M.set (i / 64) (bOr (M.getD (i / 64) 0) (1 * 2 ^ (min ((i : Int) % 64).toNat 64) % 18446744073709551616))).length = 8 := by rw [List.length_set]; exact hMl
        have hU4 := hMu.set (i / 64) (bOr_bd (M.getD (i / 64) 0) (1 * 2 ^ (min ((i : Int) % 64).toNat 64) % 18446744073709551616))
        have hlb3 := hb3.lt
        refine WH_nil ?_
        refine inBlk_normal ?_
        refine thn_normal ?_
        refine W_region rfl ?_
        refine WO_p (PS_move_int rfl) ?_
        refine WO_p (PS_move_slice rfl) ?_
        refine WO_p (PS_move_int rfl) ?_
        refine WO_p (PS_indexS Hvad.runUnderlying32 Hvad.sizeOf5 rfl rfl (by omega) (by omega)) ?_
        refine WO_load (.int _ _) Hvad.isAgg5 rfl (Hb.h (by repeat (first | assumption | exact Hb.newY _ _ | refine Hb.alloc ?_ | refine Hb.drew ?_ | refine Hb.ext (by assumption) ?_ | exact Hb.setSameL (by first | omega | (simp only [size_alloc, size_setB, size_drew]; omega)) | exact Hb.setSame (by assumption) | refine Hb.set (by first | omega | (simp only [size_alloc, size_setB, size_drew]; omega)) ?_ ))) (Ce.h (by first | assumption | exact ⟨rfl⟩)) ?_
        refine WO_call Hvad.call130 (by rfl) (Ret.mono (imm_spec _ _ (by omega)) ?_)
        rintro _ w130_6 ⟨hE130_6, rfl⟩
        have hz130_6 := hE130_6.1
        try simp only [size_alloc, size_setB, size_drew] at hz130_6
        refine WO_p (PS_conv_i64n Hvad.runUnderlying5 Hvad.runUnderlying3 rfl (by omega) (by omega)) ?_
        refine WO_p (PS_add_i64n rfl rfl (by omega) (by omega)) ?_
        refine WO_p (PS_add_i64n rfl rfl (by omega) (by omega)) ?_
        refine WO_p (PS_assign_int rfl) ?_
        refine WO_nil ?_
        refine thn_normal ?_
        exact ⟨k', by omega, i + 1 + (immOf (L.getD i 0)).toNat, _, by omega, by omega, hgo, hM4, hU4, ⟨rfl, rfl, rfl, congrArg (Value.int .i64) (by omega), trivial⟩, (by repeat (first | assumption | exact Ext.refl _ | refine Ext.alloc ?_ _ | refine Ext.drew ?_ | refine Ext.setB ?_ (by first | omega | (simp only [size_alloc, size_setB, size_drew]; omega)) _ | refine Ext.trans ?_ (by assumption))), (by first | omega | (simp only [size_alloc, size_setB, size_drew]; omega)), Hb.mk (Hb.h (by repeat (first | assumption | exact Hb.newY _ _ | refine Hb.alloc ?_ | refine Hb.drew ?_ | refine Hb.ext (by assumption) ?_ | exact Hb.setSameL (by first | omega | (simp only [size_alloc, size_setB, size_drew]; omega)) | exact Hb.setSame (by assumption) | refine Hb.set (by first | omega | (simp only [size_alloc, size_setB, size_drew]; omega)) ?_ ))), Hb.mk (Hb.h (by repeat (first | assumption | exact Hb.newY _ _ | refine Hb.alloc ?_ | refine Hb.drew ?_ | refine Hb.ext (by assumption) ?_ | exact Hb.setSameL (by first | omega | (simp only [size_alloc, size_setB, size_drew]; omega)) | exact Hb.setSame (by assumption) | refine Hb.set (by first | omega | (simp only [size_alloc, size_setB, size_drew]; omega)) ?_ )))⟩
      · have hb6p := hb6.h; try simp only [al_ete, al_dfn, Bool.not_eq_true', Bool.not_eq_false', al_ne, Bool.not_not, al_nn] at hb6p
        rw [if_neg hb6p] at hgo
        have hM4 := hMl
        have hU4 := hMu
        have hlb3 := hb3.lt
        refine W_skip ?_
        refine inBlk_normal ?_
        refine thn_normal ?_
        refine W_region rfl ?_
        refine WO_p (PS_move_int rfl) ?_
        refine WO_p (PS_move_slice rfl) ?_
        refine WO_p (PS_move_int rfl) ?_
        refine WO_p (PS_indexS Hvad.runUnderlying32 Hvad.sizeOf5 rfl rfl (by omega) (by omega)) ?_
        refine WO_load (.int _ _) Hvad.isAgg5 rfl (Hb.h (by repeat (first | assumption | exact Hb.newY _ _ | refine Hb.alloc ?_ | refine Hb.drew ?_ | refine Hb.ext (by assumption) ?_ | exact Hb.setSameL (by first | omega | (simp only [size_alloc, size_setB, size_drew]; omega)) | exact Hb.setSame (by assumption) | refine Hb.set (by first | omega | (simp only [size_alloc, size_setB, size_drew]; omega)) ?_ ))) (Ce.h (by first | assumption | exact ⟨rfl⟩)) ?_
        refine WO_call Hvad.call130 (by rfl) (Ret.mono (imm_spec _ _ (by omega)) ?_)
        rintro _ w130_7 ⟨hE130_7, rfl⟩
        have hz130_7 := hE130_7.1
        try simp only [size_alloc, size_setB, size_drew] at hz130_7
        refine WO_p (PS_conv_i64n Hvad.runUnderlying5 Hvad.runUnderlying3 rfl (by omega) (by omega)) ?_
        refine WO_p (PS_add_i64n rfl rfl (by omega) (by omega)) ?_
        refine WO_p (PS_add_i64n rfl rfl (by omega) (by omega)) ?_
        refine WO_p (PS_assign_int rfl) ?_
        refine WO_nil ?_
        refine thn_normal ?_
        exact ⟨k', by omega, i + 1 + (immOf (L.getD i 0)).toNat, _, by omega, by omega, hgo, hM4, hU4, ⟨rfl, rfl, rfl, congrArg (Value.int .i64) (by omega), trivial⟩, (by repeat (first | assumption | exact Ext.refl _ | refine Ext.alloc ?_ _ | refine Ext.drew ?_ | refine Ext.setB ?_ (by first | omega | (simp only [size_alloc, size_setB, size_drew]; omega)) _ | refine Ext.trans ?_ (by assumption))), (by first | omega | (simp only [size_alloc, size_setB, size_drew]; omega)), Hb.mk (Hb.h (by repeat (first | assumption | exact Hb.newY _ _ | refine Hb.alloc ?_ | refine Hb.drew ?_ | refine Hb.ext (by assumption) ?_ | exact Hb.setSameL (by first | omega | (simp only [size_alloc, size_setB, size_drew]; omega)) | exact Hb.setSame (by assumption) | refine Hb.set (by first | omega | (simp only [size_alloc, size_setB, size_drew]; omega)) ?_ ))), Hb.mk (Hb.h (by repeat (first | assumption | exact Hb.newY _ _ | refine Hb.alloc ?_ | refine Hb.drew ?_ | refine Hb.ext (by assumption) ?_ | exact Hb.setSameL (by first | omega | (simp only [size_alloc, size_setB, size_drew]; omega)) | exact Hb.setSame (by assumption) | refine Hb.set (by first | omega | (simp only [size_alloc, size_setB, size_drew]; omega)) ?_ )))⟩
    · have hb4p := hb4.h; try simp only [al_ete, al_dfn, Bool.not_eq_true', Bool.not_eq_false', al_ne, Bool.not_not, al_nn] at hb4p
      rw [scanGo_end (by omega)] at hgo
      subst hgo
      refine W_exit ?_
      refine thn_exit ?_
      refine thn_exit ?_
      refine inBlk_exit ?_
      refine thn_normal ?_
      refine W_seq ?_
      refine W_region rfl ?_
      refine WO_loadA _ Hvad.isAgg63 Hvad.sizeOf63 rfl (Hb.h (by repeat (first | assumption | exact Hb.newY _ _ | refine Hb.alloc ?_ | refine Hb.drew ?_ | refine Hb.ext (by assumption) ?_ | exact Hb.setSameL (by first | omega | (simp only [size_alloc, size_setB, size_drew]; omega)) | exact Hb.setSame (by assumption) | refine Hb.set (by first | omega | (simp only [size_alloc, size_setB, size_drew]; omega)) ?_ ))) (by first | omega | assumption | rfl | decide | exact Nat.le_refl _ | (simp only [size_ic, Value.cells]; omega) | simp) (Xt.h (by first | assumption | exact Xt.whole rfl rfl | exact Xt.whole rfl (by simp only [size_ic, Value.cells]; omega) | exact ⟨rfl⟩)) ?_
      first | refine WO_storeW Hvad.sizeOf63 rfl (v := .agg _) rfl (Hb.h (by repeat (first | assumption | exact Hb.newY _ _ | refine Hb.alloc ?_ | refine Hb.drew ?_ | refine Hb.ext (by assumption) ?_ | exact Hb.setSameL (by first | omega | (simp only [size_alloc, size_setB, size_drew]; omega)) | exact Hb.setSame (by assumption) | refine Hb.set (by first | omega | (simp only [size_alloc, size_setB, size_drew]; omega)) ?_ ))) rfl (by first | omega | assumption | rfl | decide | exact Nat.le_refl _ | (simp only [size_ic, Value.cells]; omega) | simp) (by first | omega | assumption | rfl | decide | exact Nat.le_refl _ | (simp only [size_ic, Value.cells]; omega) | simp) (by first | exact oneCell_ic | assumption) ?_ | refine WO_store Hvad.sizeOf63 rfl (v := .agg _) rfl (Hb.h (by repeat (first | assumption | exact Hb.newY _ _ | refine Hb.alloc ?_ | refine Hb.drew ?_ | refine Hb.ext (by assumption) ?_ | exact Hb.setSameL (by first | omega | (simp only [size_alloc, size_setB, size_drew]; omega)) | exact Hb.setSame (by assumption) | refine Hb.set (by first | omega | (simp only [size_alloc, size_setB, size_drew]; omega)) ?_ ))) (by first | omega | assumption | rfl | decide | exact Nat.le_refl _ | (simp only [size_ic, Value.cells]; omega) | simp) (by first | omega | assumption | rfl | decide | exact Nat.le_refl _ | (simp only [size_ic, Value.cells]; omega) | simp) (by first | exact oneCell_ic | assumption) ?_
      refine WO_nil ?_
      refine thn_normal ?_
      refine W_ret ?_
      refine bodyQ_cell1 Hvad.results82 rfl Hvad.isAgg63 Hvad.sizeOf63 rfl (Hb.h (by repeat (first | assumption | exact Hb.newY _ _ | refine Hb.alloc ?_ | refine Hb.drew ?_ | refine Hb.ext (by assumption) ?_ | exact Hb.setSameL (by first | omega | (simp only [size_alloc, size_setB, size_drew]; omega)) | exact Hb.setSame (by assumption) | refine Hb.set (by first | omega | (simp only [size_alloc, size_setB, size_drew]; omega)) ?_ ))) (by first | omega | assumption | rfl | decide | exact Nat.le_refl _ | (simp only [size_ic, Value.cells]; omega) | simp) ?_
      exact ⟨(by repeat (first | assumption | exact Ext.refl _ | refine Ext.alloc ?_ _ | refine Ext.drew ?_ | refine Ext.setB ?_ (by first | omega | (simp only [size_alloc, size_setB, size_drew]; omega)) _ | refine Ext.trans ?_ (by assumption))), rfl, by first | exact hMl | rfl, by first | exact hMu | exact hz8⟩

end Go.Proofs.YgvadwGreat
