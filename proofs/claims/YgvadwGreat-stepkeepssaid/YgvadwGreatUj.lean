import Derived.Test.YgvadwGreatUi
namespace Go.Proofs.YgvadwGreat
set_option linter.unusedSimpArgs false
set_option linter.unusedVariables false
theorem sub64_ex (x y c : Int) (w : World) (hx : 0 ≤ x ∧ x ≤ 18446744073709551615) (hy : 0 ≤ y ∧ y ≤ 18446744073709551615) (hc : 0 ≤ c ∧ c ≤ 1) : Ret Hvad.prog 124 #[.int .u64 x, .int .u64 y, .int .u64 c] w fun v w' => ∃ s k : Int, v = .tuple #[.int .u64 s, .int .u64 k] ∧ (0 ≤ s ∧ s ≤ 18446744073709551615) ∧ (0 ≤ k ∧ k ≤ 1) ∧ w' = w :=
  Ret.mono (sub64_spec x y c w hx.1 hy.1 hy.2 hc.1 hc.2) (by rintro _ _ ⟨rfl, rfl⟩; exact ⟨_, _, rfl, by omega, bor_bd _ _, rfl⟩)

set_option maxRecDepth 10000 in
theorem putBack_spec (bu bvY n cu cv : Nat) (ou ov : Nat) (Tu Tv : TypeId) (U Y : List Int) (w : World) (hU : Hb w bu (.cells (ic .u64 U) Tu (0, 0))) (hV : Hb w bvY (.cells (ic .u64 Y) Tv (0, 0))) (hne : bu ≠ bvY) (hUL : UL U) (hYL : UL Y) (hun : ou + n + 1 ≤ U.length) (hvn : ov + n ≤ Y.length) (hn : n ≤ 1000) : Ret Hvad.prog 301 #[.slice (some ⟨bu, ou, none⟩) (n + 1) cu, .slice (some ⟨bvY, ov, none⟩) n cv] w fun u w' => u = .tuple #[] ∧ Turned bu Tu U w w' := by
  refine Ret_of_W Hvad.func301 rfl rfl ?_
  refine W_seq ?_
  refine W_region rfl ?_
  refine WO_p (PS_assign_int rfl) ?_
  refine WO_nil ?_
  refine thn_normal ?_
  refine W_seq ?_
  refine W_seq ?_
  refine W_region rfl ?_
  refine WO_p (PS_move_slice rfl) ?_
  refine WO_p (PS_lenS Hvad.runUnderlying194 rfl) ?_
  refine WO_p (PS_move_int rfl) ?_
  refine WO_nil ?_
  refine thn_normal ?_
  refine W_block ?_
  refine W_loopN (fun m ρ w' => ∃ (i : Nat) (c : Int) (L : List Int), i + m = n ∧ (0 ≤ c ∧ c ≤ 1) ∧ L.length = U.length ∧ UL L ∧ Fr [(0, .slice (some ⟨bu, ou, none⟩) (n + 1) cu), (1, .slice (some ⟨bvY, ov, none⟩) n cv), (4, .int .u64 c), (9, .slice (some ⟨bvY, ov, none⟩) n cv), (10, .int .i64 n), (11, .int .i64 i)] ρ ∧ Hb w' bu (.cells (ic .u64 L) Tu (0, 0)) ∧ Hb w' bvY (.cells (ic .u64 Y) Tv (0, 0)) ∧ KeepO (fun x => x = bu) w w') n ?_ ?_
  · exact ⟨0, 0, U, by omega, by omega, rfl, hUL, ⟨rfl, rfl, rfl, rfl, rfl, rfl, trivial⟩, hU, hV, KeepO.refl _ _⟩
  intro m ρ w2 hI
  obtain ⟨i, c, L, him, hc, hl, hL, hF, hB2, hV2, hk2⟩ := hI
  refine W_env _ hF ?_
  refine W_seq ?_
  refine W_region rfl ?_
  refine WO_p (PS_lss rfl rfl) ?_
  refine WO_nil ?_
  refine thn_normal ?_
  refine W_seq ?_
  refine W_if rfl (fun hb2 => ?_) (fun hb2 => ?_)
  · have hb2p := hb2.h; try simp only [al_ete, al_dfn, Bool.not_eq_true', Bool.not_eq_false', al_ne, Bool.not_not, al_nn] at hb2p
    have hce : Ce (ic .u64 Y) (ov + ((i:Int)).toNat * 1) (.int .u64 (Y.getD (ov + i) 0)) := by rw [show ((i:Int)).toNat = i from Int.toNat_natCast i]; exact ce_icO (by omega)
    have hy2 := hYL.get (ov + i)
    have hce2 : Ce (ic .u64 L) (ou + ((i:Int)).toNat * 1) (.int .u64 (L.getD (ou + i) 0)) := by rw [show ((i:Int)).toNat = i from Int.toNat_natCast i]; exact ce_icO (by omega)
    have hx2 := hL.get (ou + i)
    refine W_skip ?_
    refine thn_normal ?_
    refine W_seq ?_
    refine W_block ?_
    refine W_seq ?_
    refine W_region rfl ?_
    refine WO_p (PS_move_int rfl) ?_
    refine WO_p (PS_indexS Hvad.runUnderlying194 Hvad.sizeOf26 rfl rfl (by omega) (by omega)) ?_
    refine WO_load (.int _ _) Hvad.isAgg26 rfl (Hb.h (by repeat (first | assumption | exact Hb.newY _ _ | refine Hb.alloc ?_ | refine Hb.drew ?_ | refine Hb.ext (by assumption) ?_ | exact Hb.setSameL (by first | omega | (simp only [size_alloc, size_setB, size_drew]; omega)) | exact Hb.setSame (by assumption) | refine Hb.set (by first | omega | (simp only [size_alloc, size_setB, size_drew]; omega)) ?_ ))) (Ce.h (by first | assumption | exact ⟨rfl⟩)) ?_
    refine WO_p (PS_assign_int rfl) ?_
    refine WO_p (PS_assign_int rfl) ?_
    refine WO_nil ?_
    refine thn_normal ?_
    refine W_seq ?_
    refine W_region rfl ?_
    refine WO_p (PS_move_slice rfl) ?_
    refine WO_p (PS_move_int rfl) ?_
    refine WO_p (PS_indexS Hvad.runUnderlying194 Hvad.sizeOf26 rfl rfl (by omega) (by omega)) ?_
    refine WO_load (.int _ _) Hvad.isAgg26 rfl (Hb.h (by repeat (first | assumption | exact Hb.newY _ _ | refine Hb.alloc ?_ | refine Hb.drew ?_ | refine Hb.ext (by assumption) ?_ | exact Hb.setSameL (by first | omega | (simp only [size_alloc, size_setB, size_drew]; omega)) | exact Hb.setSame (by assumption) | refine Hb.set (by first | omega | (simp only [size_alloc, size_setB, size_drew]; omega)) ?_ ))) (Ce.h (by first | assumption | exact ⟨rfl⟩)) ?_
    refine WO_p (PS_move_int rfl) ?_
    refine WO_p (PS_move_int rfl) ?_
    refine WO_call Hvad.call72 (by rfl) (Ret.mono (add64_ex _ _ _ _ (by omega) (by omega) (by omega)) ?_)
    rintro _ w72_2 ⟨s72_2, k72_2, rfl, hs72_2, hr72_2, hk72_2, hw72_2⟩
    obtain rfl := hw72_2.symm
    refine WO_p (PS_move_tuple rfl) ?_
    refine WO_p (PS_extract_int rfl rfl) ?_
    refine WO_p (PS_extract_int rfl rfl) ?_
    refine WO_p (PS_assign_int rfl) ?_
    refine WO_p (PS_assign_int rfl) ?_
    refine WO_nil ?_
    refine thn_normal ?_
    refine W_seq ?_
    refine W_region rfl ?_
    refine WO_p (PS_move_slice rfl) ?_
    refine WO_p (PS_move_int rfl) ?_
    refine WO_p (PS_move_int rfl) ?_
    refine WO_p (PS_indexS Hvad.runUnderlying194 Hvad.sizeOf26 rfl rfl (by omega) (by omega)) ?_
    refine WO_store1 Hvad.sizeOf26 rfl (v := .int _ _) rfl hB2.h rfl (by rw [size_ic]; omega) rfl ?_
    rw [show ((i:Int)).toNat = i from Int.toNat_natCast i, ic_setO]
    refine WO_nil ?_
    refine thn_normal ?_
    refine W_region rfl ?_
    refine WO_p (PS_move_int rfl) ?_
    refine WO_p (PS_assign_int rfl) ?_
    refine WO_nil ?_
    refine inBlk_normal ?_
    refine thn_normal ?_
    refine W_region rfl ?_
    refine WO_p (PS_add_i64n rfl rfl (by omega) (by omega)) ?_
    refine WO_p (PS_move_int rfl) ?_
    refine WO_nil ?_
    refine thn_normal ?_
    exact ⟨m - 1, by omega, i + 1, _, L.set (ou + i) _, by omega, by assumption, by rw [List.length_set]; exact hl, hL.set _ (by assumption), ⟨rfl, rfl, rfl, rfl, rfl, congrArg (Value.int .i64) (by omega), trivial⟩, Hb.setSame hB2, Hb.set hne hV2, hk2.setB (fun _ => rfl) _⟩
  · have hb2p := hb2.h; try simp only [al_ete, al_dfn, Bool.not_eq_true', Bool.not_eq_false', al_ne, Bool.not_not, al_nn] at hb2p
    have hce2 : Ce (ic .u64 L) (ou + ((n:Int)).toNat * 1) (.int .u64 (L.getD (ou + n) 0)) := by rw [show ((n:Int)).toNat = n from Int.toNat_natCast n]; exact ce_icO (by omega)
    have hx2 := hL.get (ou + n)
    refine W_exit ?_
    refine thn_exit ?_
    refine thn_exit ?_
    refine inBlk_exit ?_
    refine thn_normal ?_
    refine W_region rfl ?_
    refine WO_p (PS_move_slice rfl) ?_
    refine WO_p (PS_move_slice rfl) ?_
    refine WO_p (PS_lenS Hvad.runUnderlying194 rfl) ?_
    refine WO_p (PS_indexS Hvad.runUnderlying194 Hvad.sizeOf26 rfl rfl (by omega) (by omega)) ?_
    refine WO_load (.int _ _) Hvad.isAgg26 rfl (Hb.h (by repeat (first | assumption | exact Hb.newY _ _ | refine Hb.alloc ?_ | refine Hb.drew ?_ | refine Hb.ext (by assumption) ?_ | exact Hb.setSameL (by first | omega | (simp only [size_alloc, size_setB, size_drew]; omega)) | exact Hb.setSame (by assumption) | refine Hb.set (by first | omega | (simp only [size_alloc, size_setB, size_drew]; omega)) ?_ ))) (Ce.h (by first | assumption | exact ⟨rfl⟩)) ?_
    refine WO_p (PS_move_int rfl) ?_
    refine WO_p (PS_add_u64w rfl rfl) ?_
    refine WO_p (PS_indexS Hvad.runUnderlying194 Hvad.sizeOf26 rfl rfl (by omega) (by omega)) ?_
    refine WO_store1 Hvad.sizeOf26 rfl (v := .int _ _) rfl hB2.h rfl (by rw [size_ic]; omega) rfl ?_
    rw [show ((n:Int)).toNat = n from Int.toNat_natCast n, ic_setO]
    refine WO_nil ?_
    first | refine bodyQ_ret0 Hvad.results301 ?_ | refine bodyQ_end0 Hvad.results301 ?_
    exact ⟨rfl, L.set (ou + n) _, by rw [List.length_set]; exact hl, hL.set _ (by omega), Hb.setSame hB2, hk2.setB (fun _ => rfl) _⟩

set_option maxRecDepth 10000 in
theorem takeTimes_spec (bu bvY n cu cv : Nat) (ou ov : Nat) (Tu Tv : TypeId) (U Y : List Int) (q : Int) (w : World) (hU : Hb w bu (.cells (ic .u64 U) Tu (0, 0))) (hV : Hb w bvY (.cells (ic .u64 Y) Tv (0, 0))) (hne : bu ≠ bvY) (hUL : UL U) (hYL : UL Y) (hun : ou + n + 1 ≤ U.length) (hvn : ov + n ≤ Y.length) (hn : n ≤ 1000) (hq : 0 ≤ q ∧ q ≤ 18446744073709551615) : Ret Hvad.prog 300 #[.slice (some ⟨bu, ou, none⟩) (n + 1) cu, .slice (some ⟨bvY, ov, none⟩) n cv, .int .u64 q] w fun u w' => Turned bu Tu U w w' ∧ ∃ z, u = .bool z := by
  refine Ret_of_W Hvad.func300 rfl rfl ?_
  refine W_seq ?_
  refine W_region rfl ?_
  refine WO_p (PS_assign_bool rfl) ?_
  refine WO_nil ?_
  refine thn_normal ?_
  refine W_seq ?_
  refine W_region rfl ?_
  refine WO_p (PS_assign_int rfl) ?_
  refine WO_nil ?_
  refine thn_normal ?_
  refine W_seq ?_
  refine W_region rfl ?_
  refine WO_p (PS_assign_int rfl) ?_
  refine WO_nil ?_
  refine thn_normal ?_
  refine W_seq ?_
  refine W_seq ?_
  refine W_region rfl ?_
  refine WO_p (PS_move_slice rfl) ?_
  refine WO_p (PS_lenS Hvad.runUnderlying194 rfl) ?_
  refine WO_p (PS_move_int rfl) ?_
  refine WO_nil ?_
  refine thn_normal ?_
  refine W_block ?_
  refine W_loopN (fun m ρ w' => ∃ (i : Nat) (c d : Int) (L : List Int), i + m = n ∧ (0 ≤ c ∧ c ≤ 18446744073709551615) ∧ (0 ≤ d ∧ d ≤ 1) ∧ L.length = U.length ∧ UL L ∧ Fr [(0, .slice (some ⟨bu, ou, none⟩) (n + 1) cu), (1, .slice (some ⟨bvY, ov, none⟩) n cv), (2, .int .u64 q), (7, .int .u64 c), (8, .int .u64 d), (17, .slice (some ⟨bvY, ov, none⟩) n cv), (18, .int .i64 n), (19, .int .i64 i)] ρ ∧ Hb w' bu (.cells (ic .u64 L) Tu (0, 0)) ∧ Hb w' bvY (.cells (ic .u64 Y) Tv (0, 0)) ∧ KeepO (fun x => x = bu) w w') n ?_ ?_
  · exact ⟨0, 0, 0, U, by omega, by omega, by omega, rfl, hUL, ⟨rfl, rfl, rfl, rfl, rfl, rfl, rfl, rfl, trivial⟩, hU, hV, KeepO.refl _ _⟩
  intro m ρ w2 hI
  obtain ⟨i, c, d, L, him, hc, hd, hl, hL, hF, hB2, hV2, hk2⟩ := hI
  refine W_env _ hF ?_
  refine W_seq ?_
  refine W_region rfl ?_
  refine WO_p (PS_lss rfl rfl) ?_
  refine WO_nil ?_
  refine thn_normal ?_
  refine W_seq ?_
  refine W_if rfl (fun hb2 => ?_) (fun hb2 => ?_)
  · have hb2p := hb2.h; try simp only [al_ete, al_dfn, Bool.not_eq_true', Bool.not_eq_false', al_ne, Bool.not_not, al_nn] at hb2p
    have hce : Ce (ic .u64 Y) (ov + ((i:Int)).toNat * 1) (.int .u64 (Y.getD (ov + i) 0)) := by rw [show ((i:Int)).toNat = i from Int.toNat_natCast i]; exact ce_icO (by omega)
    have hy2 := hYL.get (ov + i)
    have hce2 : Ce (ic .u64 L) (ou + ((i:Int)).toNat * 1) (.int .u64 (L.getD (ou + i) 0)) := by rw [show ((i:Int)).toNat = i from Int.toNat_natCast i]; exact ce_icO (by omega)
    have hx2 := hL.get (ou + i)
    refine W_skip ?_
    refine thn_normal ?_
    refine W_seq ?_
    refine W_block ?_
    refine W_seq ?_
    refine W_region rfl ?_
    refine WO_p (PS_move_int rfl) ?_
    refine WO_p (PS_indexS Hvad.runUnderlying194 Hvad.sizeOf26 rfl rfl (by omega) (by omega)) ?_
    refine WO_load (.int _ _) Hvad.isAgg26 rfl (Hb.h (by repeat (first | assumption | exact Hb.newY _ _ | refine Hb.alloc ?_ | refine Hb.drew ?_ | refine Hb.ext (by assumption) ?_ | exact Hb.setSameL (by first | omega | (simp only [size_alloc, size_setB, size_drew]; omega)) | exact Hb.setSame (by assumption) | refine Hb.set (by first | omega | (simp only [size_alloc, size_setB, size_drew]; omega)) ?_ ))) (Ce.h (by first | assumption | exact ⟨rfl⟩)) ?_
    refine WO_p (PS_assign_int rfl) ?_
    refine WO_p (PS_assign_int rfl) ?_
    refine WO_nil ?_
    refine thn_normal ?_
    refine W_seq ?_
    refine W_region rfl ?_
    refine WO_p (PS_move_int rfl) ?_
    refine WO_p (PS_move_int rfl) ?_
    refine WO_p (PS_move_int rfl) ?_
    refine WO_call Hvad.call279 (by rfl) (Ret.mono (mulAdd_spec _ _ _ _ _ (by omega) (by omega) (by omega) (by omega)) ?_)
    rintro _ w3 ⟨hE3, lo, hi, rfl, hlo, hhi⟩
    have hB3 := Hb.ext hE3 hB2
    have hV3 := Hb.ext hE3 hV2
    have hk3 := hk2.extR hE3
    refine WO_p (PS_move_tuple rfl) ?_
    refine WO_p (PS_extract_int rfl rfl) ?_
    refine WO_p (PS_extract_int rfl rfl) ?_
    refine WO_p (PS_assign_int rfl) ?_
    refine WO_p (PS_assign_int rfl) ?_
    refine WO_nil ?_
    refine thn_normal ?_
    refine W_seq ?_
    refine W_region rfl ?_
    refine WO_p (PS_move_slice rfl) ?_
    refine WO_p (PS_move_int rfl) ?_
    refine WO_p (PS_indexS Hvad.runUnderlying194 Hvad.sizeOf26 rfl rfl (by omega) (by omega)) ?_
    refine WO_load (.int _ _) Hvad.isAgg26 rfl (Hb.h (by repeat (first | assumption | exact Hb.newY _ _ | refine Hb.alloc ?_ | refine Hb.drew ?_ | refine Hb.ext (by assumption) ?_ | exact Hb.setSameL (by first | omega | (simp only [size_alloc, size_setB, size_drew]; omega)) | exact Hb.setSame (by assumption) | refine Hb.set (by first | omega | (simp only [size_alloc, size_setB, size_drew]; omega)) ?_ ))) (Ce.h (by first | assumption | exact ⟨rfl⟩)) ?_
    refine WO_p (PS_move_int rfl) ?_
    refine WO_p (PS_move_int rfl) ?_
    refine WO_call Hvad.call124 (by rfl) (Ret.mono (sub64_ex _ _ _ _ (by omega) (by omega) (by omega)) ?_)
    rintro _ w124_3 ⟨s124_3, k124_3, rfl, hr124_3, hk124_3, hw124_3⟩
    obtain rfl := hw124_3.symm
    refine WO_p (PS_move_tuple rfl) ?_
    refine WO_p (PS_extract_int rfl rfl) ?_
    refine WO_p (PS_extract_int rfl rfl) ?_
    refine WO_p (PS_assign_int rfl) ?_
    refine WO_p (PS_assign_int rfl) ?_
    refine WO_nil ?_
    refine thn_normal ?_
    refine W_seq ?_
    refine W_region rfl ?_
    refine WO_p (PS_move_slice rfl) ?_
    refine WO_p (PS_move_int rfl) ?_
    refine WO_p (PS_move_int rfl) ?_
    refine WO_p (PS_indexS Hvad.runUnderlying194 Hvad.sizeOf26 rfl rfl (by omega) (by omega)) ?_
    refine WO_store1 Hvad.sizeOf26 rfl (v := .int _ _) rfl hB3.h rfl (by rw [size_ic]; omega) rfl ?_
    rw [show ((i:Int)).toNat = i from Int.toNat_natCast i, ic_setO]
    refine WO_nil ?_
    refine thn_normal ?_
    refine W_seq ?_
    refine W_region rfl ?_
    refine WO_p (PS_move_int rfl) ?_
    refine WO_p (PS_assign_int rfl) ?_
    refine WO_nil ?_
    refine thn_normal ?_
    refine W_region rfl ?_
    refine WO_p (PS_move_int rfl) ?_
    refine WO_p (PS_assign_int rfl) ?_
    refine WO_nil ?_
    refine inBlk_normal ?_
    refine thn_normal ?_
    refine W_region rfl ?_
    refine WO_p (PS_add_i64n rfl rfl (by omega) (by omega)) ?_
    refine WO_p (PS_move_int rfl) ?_
    refine WO_nil ?_
    refine thn_normal ?_
    exact ⟨m - 1, by omega, i + 1, _, _, L.set (ou + i) _, by omega, hhi, by assumption, by rw [List.length_set]; exact hl, hL.set _ (by assumption), ⟨rfl, rfl, rfl, rfl, rfl, rfl, rfl, congrArg (Value.int .i64) (by omega), trivial⟩, Hb.setSame hB3, Hb.set hne hV3, hk3.setB (fun _ => rfl) _⟩
  · have hb2p := hb2.h; try simp only [al_ete, al_dfn, Bool.not_eq_true', Bool.not_eq_false', al_ne, Bool.not_not, al_nn] at hb2p
    have hce2 : Ce (ic .u64 L) (ou + ((n:Int)).toNat * 1) (.int .u64 (L.getD (ou + n) 0)) := by rw [show ((n:Int)).toNat = n from Int.toNat_natCast n]; exact ce_icO (by omega)
    have hx2 := hL.get (ou + n)
    refine W_exit ?_
    refine thn_exit ?_
    refine thn_exit ?_
    refine inBlk_exit ?_
    refine thn_normal ?_
    refine W_seq ?_
    refine W_region rfl ?_
    refine WO_p (PS_move_slice rfl) ?_
    refine WO_p (PS_move_slice rfl) ?_
    refine WO_p (PS_lenS Hvad.runUnderlying194 rfl) ?_
    refine WO_p (PS_indexS Hvad.runUnderlying194 Hvad.sizeOf26 rfl rfl (by omega) (by omega)) ?_
    refine WO_load (.int _ _) Hvad.isAgg26 rfl (Hb.h (by repeat (first | assumption | exact Hb.newY _ _ | refine Hb.alloc ?_ | refine Hb.drew ?_ | refine Hb.ext (by assumption) ?_ | exact Hb.setSameL (by first | omega | (simp only [size_alloc, size_setB, size_drew]; omega)) | exact Hb.setSame (by assumption) | refine Hb.set (by first | omega | (simp only [size_alloc, size_setB, size_drew]; omega)) ?_ ))) (Ce.h (by first | assumption | exact ⟨rfl⟩)) ?_
    refine WO_p (PS_move_int rfl) ?_
    refine WO_p (PS_move_int rfl) ?_
    refine WO_call Hvad.call124 (by rfl) (Ret.mono (sub64_ex _ _ _ _ (by omega) (by omega) (by omega)) ?_)
    rintro _ w124_4 ⟨s124_4, k124_4, rfl, hr124_4, hk124_4, hw124_4⟩
    obtain rfl := hw124_4.symm
    refine WO_p (PS_move_tuple rfl) ?_
    refine WO_p (PS_extract_int rfl rfl) ?_
    refine WO_p (PS_extract_int rfl rfl) ?_
    refine WO_p (PS_assign_int rfl) ?_
    refine WO_p (PS_assign_int rfl) ?_
    refine WO_nil ?_
    refine thn_normal ?_
    refine W_seq ?_
    refine W_region rfl ?_
    refine WO_p (PS_move_slice rfl) ?_
    refine WO_p (PS_move_slice rfl) ?_
    refine WO_p (PS_lenS Hvad.runUnderlying194 rfl) ?_
    refine WO_p (PS_move_int rfl) ?_
    refine WO_p (PS_indexS Hvad.runUnderlying194 Hvad.sizeOf26 rfl rfl (by omega) (by omega)) ?_
    refine WO_store1 Hvad.sizeOf26 rfl (v := .int _ _) rfl hB2.h rfl (by rw [size_ic]; omega) rfl ?_
    rw [show ((n:Int)).toNat = n from Int.toNat_natCast n, ic_setO]
    refine WO_nil ?_
    refine thn_normal ?_
    refine W_seq ?_
    refine W_region rfl ?_
    refine WO_p (PS_move_int rfl) ?_
    refine WO_p (PS_neq rfl rfl) ?_
    refine WO_p (PS_assign_bool rfl) ?_
    refine WO_nil ?_
    refine thn_normal ?_
    refine W_ret ?_
    refine bodyQ_ret1 Hvad.results300 rfl (.bool _) rfl ?_
    exact ⟨⟨L.set (ou + n) _, by rw [List.length_set]; exact hl, hL.set _ (by assumption), Hb.setSame hB2, hk2.setB (fun _ => rfl) _⟩, _, rfl⟩

set_option maxRecDepth 10000 in
theorem trial_spec (h m l t x : Int) (w : World) (hh : 0 ≤ h ∧ h ≤ 18446744073709551615) (hm : 0 ≤ m ∧ m ≤ 18446744073709551615) (hl : 0 ≤ l ∧ l ≤ 18446744073709551615) (ht : 0 < t ∧ t ≤ 18446744073709551615) (hx : 0 ≤ x ∧ x ≤ 18446744073709551615) : Ret Hvad.prog 299 #[.int .u64 h, .int .u64 m, .int .u64 l, .int .u64 t, .int .u64 x] w fun u w' => Ext w w' ∧ ∃ q f : Int, u = .tuple #[.int .u64 q, .int .u8 f] ∧ (0 ≤ q ∧ q ≤ 18446744073709551615) ∧ (0 ≤ f ∧ f ≤ 255) := by
  refine Ret_of_W Hvad.func299 rfl rfl ?_
  refine W_seq ?_
  refine W_region rfl ?_
  refine WO_p (PS_assign_int rfl) ?_
  refine WO_p (PS_assign_int rfl) ?_
  refine WO_nil ?_
  refine thn_normal ?_
  refine W_seq ?_
  refine W_region rfl ?_
  refine WO_p (PS_move_int rfl) ?_
  refine WO_p (PS_move_int rfl) ?_
  refine WO_p (PS_move_int rfl) ?_
  refine WO_call Hvad.call249 (by rfl) (Ret.mono (div64_spec _ _ _ _ hh hm (by omega)) ?_)
  rintro _ w1 ⟨hE1, q1, r1, ok1, rfl, hq1, hr1⟩
  refine WO_p (PS_move_tuple rfl) ?_
  refine WO_p (PS_extract_int rfl rfl) ?_
  refine WO_p (PS_extract_int rfl rfl) ?_
  refine WO_p (PS_extract_bool rfl rfl) ?_
  refine WO_p (PS_assign_int rfl) ?_
  refine WO_p (PS_assign_int rfl) ?_
  refine WO_p (PS_assign_bool rfl) ?_
  refine WO_nil ?_
  refine thn_normal ?_
  refine W_seq ?_
  refine W_region rfl ?_
  refine WO_p (PS_assign_int rfl) ?_
  refine WO_nil ?_
  refine thn_normal ?_
  refine W_seq ?_
  refine W_seq ?_
  refine W_region rfl ?_
  refine WO_p (PS_move_bool rfl) ?_
  refine WO_p (PS_not rfl) ?_
  refine WO_nil ?_
  refine thn_normal ?_
  refine W_if rfl (fun hb4 => ?_) (fun hb4 => ?_)
  · have hb4p := hb4.h; try simp only [al_ete, al_dfn, Bool.not_eq_true', Bool.not_eq_false', al_ne, Bool.not_not, al_nn] at hb4p
    refine W_seq ?_
    refine W_region rfl ?_
    refine WO_p (PS_assign_int rfl) ?_
    refine WO_nil ?_
    refine thn_normal ?_
    refine W_region rfl ?_
    refine WO_p (PS_move_int rfl) ?_
    refine WO_p (PS_move_int rfl) ?_
    refine WO_call Hvad.call72 (by rfl) (Ret.mono (add64_ex _ _ _ _ (by omega) (by omega) (by omega)) ?_)
    rintro _ w72_4 ⟨s72_4, k72_4, rfl, hs72_4, hr72_4, hk72_4, hw72_4⟩
    obtain rfl := hw72_4.symm
    refine WO_p (PS_move_tuple rfl) ?_
    refine WO_p (PS_extract_int rfl rfl) ?_
    refine WO_p (PS_extract_int rfl rfl) ?_
    refine WO_p (PS_assign_int rfl) ?_
    refine WO_p (PS_assign_int rfl) ?_
    refine WO_nil ?_
    refine thn_normal ?_
    refine W_seq ?_
    refine W_block ?_
    refine W_loopN (fun k ρ w' => ∃ q f r ov : Int, (0 ≤ q ∧ q ≤ 18446744073709551615) ∧ (0 ≤ f ∧ f ≤ 255) ∧ (0 ≤ r ∧ r ≤ 18446744073709551615) ∧ (ov = 0 → 18446744073709551616 - r ≤ k) ∧ Fr [(2, .int .u64 l), (3, .int .u64 t), (4, .int .u64 x), (10, .int .u64 q), (11, .int .u8 f), (12, .int .u64 r), (14, .int .u64 ov)] ρ ∧ Ext w w') 18446744073709551616 ?_ ?_
    · refine ⟨_, _, _, _, ?_, ?_, ?_, ?_, ⟨rfl, rfl, rfl, rfl, rfl, rfl, rfl, trivial⟩, hE1⟩ <;> first | omega | (intro _; omega)
    intro k ρ w2 hI
    obtain ⟨q, f, r, ov, hq, hf, hr, hov, hF, hE2⟩ := hI
    refine W_env _ hF ?_
    refine W_seq ?_
    refine W_seq ?_
    refine W_region rfl ?_
    refine WO_p (PS_move_int rfl) ?_
    refine WO_p (PS_eql rfl rfl) ?_
    refine WO_nil ?_
    refine thn_normal ?_
    refine W_if rfl (fun hb7 => ?_) (fun hb7 => ?_)
    · have hb7p := hb7.h; try simp only [al_ete, al_dfn, Bool.not_eq_true', Bool.not_eq_false', al_ne, Bool.not_not, al_nn] at hb7p
      refine W_skip ?_
      refine thn_normal ?_
      refine W_block ?_
      refine W_seq ?_
      refine W_region rfl ?_
      refine WO_p (PS_move_int rfl) ?_
      refine WO_p (PS_move_int rfl) ?_
      refine WO_call Hvad.call71 (by rfl) (Ret.mono (mul64_ex _ _ _ (by omega) (by omega)) ?_)
      rintro _ w71_7 ⟨h71_7, l71_7, rfl, hm71_7, hh71_7, hl71_7, hw71_7⟩
      obtain rfl := hw71_7.symm
      refine WO_p (PS_move_tuple rfl) ?_
      refine WO_p (PS_extract_int rfl rfl) ?_
      refine WO_p (PS_extract_int rfl rfl) ?_
      refine WO_p (PS_assign_int rfl) ?_
      refine WO_p (PS_assign_int rfl) ?_
      refine WO_nil ?_
      refine thn_normal ?_
      refine W_seq ?_
      refine W_seq ?_
      refine W_region rfl ?_
      refine WO_p (PS_move_int rfl) ?_
      refine WO_p (PS_move_int rfl) ?_
      refine WO_p (PS_lss rfl rfl) ?_
      refine WO_p (PS_move_bool rfl) ?_
      refine WO_if (t := 44) rfl (fun hb10 => ?_) (fun hb10 => ?_)
      · have hb10p := hb10.h; try simp only [al_ete, al_dfn, Bool.not_eq_true', Bool.not_eq_false', al_ne, Bool.not_not, al_nn] at hb10p
        refine WO_guardF rfl rfl hb10.h ?_
        refine WO_guardF rfl rfl hb10.h ?_
        refine WO_guardF rfl rfl hb10.h ?_
        refine WO_guardF rfl rfl hb10.h ?_
        refine WO_guardU rfl rfl ?_
        refine WO_guardU rfl rfl ?_
        refine WO_guardU rfl rfl ?_
        refine WO_guardF rfl rfl hb10.h ?_
        refine WO_p (PS_pickT rfl hb10.h rfl) ?_
        refine WO_nil ?_
        refine thn_normal ?_
        refine W_condT rfl rfl ?_
        refine W_exit ?_
        refine thn_exit ?_
        refine inBlk_exit_ne (by decide) ?_
        refine thn_exit ?_
        refine inBlk_exit ?_
        refine thn_normal ?_
        refine W_seq ?_
        refine W_region rfl ?_
        refine WO_p (PS_move_int rfl) ?_
        refine WO_p (PS_move_int rfl) ?_
        refine WO_p (PS_assign_int rfl) ?_
        refine WO_p (PS_assign_int rfl) ?_
        refine WO_nil ?_
        refine thn_normal ?_
        refine W_ret ?_
        refine bodyQ_ret2 Hvad.results299 rfl rfl (.int _ _) (.int _ _) rfl rfl ?_
        exact ⟨hE2, q, f, rfl, hq, hf⟩
      · have hb10p := hb10.h; try simp only [al_ete, al_dfn, Bool.not_eq_true', Bool.not_eq_false', al_ne, Bool.not_not, al_nn] at hb10p
        refine WO_guardT rfl rfl hb10.h ?_
        refine WO_p (PS_move_int rfl) ?_
        refine WO_guardT rfl rfl hb10.h ?_
        refine WO_p (PS_move_int rfl) ?_
        refine WO_guardT rfl rfl hb10.h ?_
        refine WO_p (PS_eql rfl rfl) ?_
        refine WO_guardT rfl rfl hb10.h ?_
        refine WO_p (PS_move_bool rfl) ?_
        refine WO_if (t := 48) rfl (fun hb12 => ?_) (fun hb12 => ?_)
        · have hb12p := hb12.h; try simp only [al_ete, al_dfn, Bool.not_eq_true', Bool.not_eq_false', al_ne, Bool.not_not, al_nn] at hb12p
          refine WO_guardT rfl rfl hb12.h ?_
          refine WO_p (PS_move_int rfl) ?_
          refine WO_guardT rfl rfl hb12.h ?_
          refine WO_p (PS_move_int rfl) ?_
          refine WO_guardT rfl rfl hb12.h ?_
          refine WO_p (PS_leq rfl rfl) ?_
          refine WO_guardT rfl rfl hb10.h ?_
          refine WO_p (PS_pickT rfl hb12.h rfl) ?_
          refine WO_p (PS_pickF rfl hb10.h rfl) ?_
          refine WO_nil ?_
          refine thn_normal ?_
          refine W_if rfl (fun hb14 => ?_) (fun hb14 => ?_)
          · have hb14p := hb14.h; try simp only [al_ete, al_dfn, Bool.not_eq_true', Bool.not_eq_false', al_ne, Bool.not_not, al_nn] at hb14p
            refine W_exit ?_
            refine thn_exit ?_
            refine inBlk_exit_ne (by decide) ?_
            refine thn_exit ?_
            refine inBlk_exit ?_
            refine thn_normal ?_
            refine W_seq ?_
            refine W_region rfl ?_
            refine WO_p (PS_move_int rfl) ?_
            refine WO_p (PS_move_int rfl) ?_
            refine WO_p (PS_assign_int rfl) ?_
            refine WO_p (PS_assign_int rfl) ?_
            refine WO_nil ?_
            refine thn_normal ?_
            refine W_ret ?_
            refine bodyQ_ret2 Hvad.results299 rfl rfl (.int _ _) (.int _ _) rfl rfl ?_
            exact ⟨hE2, q, f, rfl, hq, hf⟩
          · have hb14p := hb14.h; try simp only [al_ete, al_dfn, Bool.not_eq_true', Bool.not_eq_false', al_ne, Bool.not_not, al_nn] at hb14p
            refine W_skip ?_
            refine thn_normal ?_
            refine W_seq ?_
            refine W_region rfl ?_
            refine WO_p (PS_move_int rfl) ?_
            refine WO_p (PS_sub_u64w rfl rfl) ?_
            refine WO_p (PS_assign_int rfl) ?_
            refine WO_nil ?_
            refine thn_normal ?_
            refine W_seq ?_
            refine W_region rfl ?_
            refine WO_p (PS_move_int rfl) ?_
            refine WO_p (PS_add_u8w rfl rfl) ?_
            refine WO_p (PS_assign_int rfl) ?_
            refine WO_nil ?_
            refine thn_normal ?_
            refine W_region rfl ?_
            refine WO_p (PS_move_int rfl) ?_
            refine WO_p (PS_move_int rfl) ?_
            refine WO_call Hvad.call72 (by rfl) (Ret.mono (add64_ex _ _ _ _ (by omega) (by omega) (by omega)) ?_)
            rintro _ w72_14 ⟨s72_14, k72_14, rfl, hs72_14, hr72_14, hk72_14, hw72_14⟩
            obtain rfl := hw72_14.symm
            refine WO_p (PS_move_tuple rfl) ?_
            refine WO_p (PS_extract_int rfl rfl) ?_
            refine WO_p (PS_extract_int rfl rfl) ?_
            refine WO_p (PS_assign_int rfl) ?_
            refine WO_p (PS_assign_int rfl) ?_
            refine WO_nil ?_
            refine inBlk_normal ?_
            refine thn_normal ?_
            refine ⟨k - 1, by omega, _, _, _, _, ?_, ?_, ?_, ?_, ⟨rfl, rfl, rfl, rfl, rfl, rfl, rfl, trivial⟩, hE2⟩ <;> first | omega | (intro _; omega)
        · have hb12p := hb12.h; try simp only [al_ete, al_dfn, Bool.not_eq_true', Bool.not_eq_false', al_ne, Bool.not_not, al_nn] at hb12p
          refine WO_guardF rfl rfl hb12.h ?_
          refine WO_guardF rfl rfl hb12.h ?_
          refine WO_guardF rfl rfl hb12.h ?_
          refine WO_guardT rfl rfl hb10.h ?_
          refine WO_p (PS_pickF rfl hb12.h rfl) ?_
          refine WO_p (PS_pickF rfl hb10.h rfl) ?_
          refine WO_nil ?_
          refine thn_normal ?_
          refine W_condF rfl rfl ?_
          refine W_skip ?_
          refine thn_normal ?_
          refine W_seq ?_
          refine W_region rfl ?_
          refine WO_p (PS_move_int rfl) ?_
          refine WO_p (PS_sub_u64w rfl rfl) ?_
          refine WO_p (PS_assign_int rfl) ?_
          refine WO_nil ?_
          refine thn_normal ?_
          refine W_seq ?_
          refine W_region rfl ?_
          refine WO_p (PS_move_int rfl) ?_
          refine WO_p (PS_add_u8w rfl rfl) ?_
          refine WO_p (PS_assign_int rfl) ?_
          refine WO_nil ?_
          refine thn_normal ?_
          refine W_region rfl ?_
          refine WO_p (PS_move_int rfl) ?_
          refine WO_p (PS_move_int rfl) ?_
          refine WO_call Hvad.call72 (by rfl) (Ret.mono (add64_ex _ _ _ _ (by omega) (by omega) (by omega)) ?_)
          rintro _ w72_15 ⟨s72_15, k72_15, rfl, hs72_15, hr72_15, hk72_15, hw72_15⟩
          obtain rfl := hw72_15.symm
          refine WO_p (PS_move_tuple rfl) ?_
          refine WO_p (PS_extract_int rfl rfl) ?_
          refine WO_p (PS_extract_int rfl rfl) ?_
          refine WO_p (PS_assign_int rfl) ?_
          refine WO_p (PS_assign_int rfl) ?_
          refine WO_nil ?_
          refine inBlk_normal ?_
          refine thn_normal ?_
          refine ⟨k - 1, by omega, _, _, _, _, ?_, ?_, ?_, ?_, ⟨rfl, rfl, rfl, rfl, rfl, rfl, rfl, trivial⟩, hE2⟩ <;> first | omega | (intro _; omega)
    · have hb7p := hb7.h; try simp only [al_ete, al_dfn, Bool.not_eq_true', Bool.not_eq_false', al_ne, Bool.not_not, al_nn] at hb7p
      refine W_exit ?_
      refine thn_exit ?_
      refine thn_exit ?_
      refine inBlk_exit ?_
      refine thn_normal ?_
      refine W_seq ?_
      refine W_region rfl ?_
      refine WO_p (PS_move_int rfl) ?_
      refine WO_p (PS_move_int rfl) ?_
      refine WO_p (PS_assign_int rfl) ?_
      refine WO_p (PS_assign_int rfl) ?_
      refine WO_nil ?_
      refine thn_normal ?_
      refine W_ret ?_
      refine bodyQ_ret2 Hvad.results299 rfl rfl (.int _ _) (.int _ _) rfl rfl ?_
      exact ⟨hE2, q, f, rfl, hq, hf⟩
  · have hb4p := hb4.h; try simp only [al_ete, al_dfn, Bool.not_eq_true', Bool.not_eq_false', al_ne, Bool.not_not, al_nn] at hb4p
    refine W_skip ?_
    refine thn_normal ?_
    refine W_seq ?_
    refine W_block ?_
    refine W_loopN (fun k ρ w' => ∃ q f r ov : Int, (0 ≤ q ∧ q ≤ 18446744073709551615) ∧ (0 ≤ f ∧ f ≤ 255) ∧ (0 ≤ r ∧ r ≤ 18446744073709551615) ∧ (ov = 0 → 18446744073709551616 - r ≤ k) ∧ Fr [(2, .int .u64 l), (3, .int .u64 t), (4, .int .u64 x), (10, .int .u64 q), (11, .int .u8 f), (12, .int .u64 r), (14, .int .u64 ov)] ρ ∧ Ext w w') 18446744073709551616 ?_ ?_
    · refine ⟨_, _, _, _, ?_, ?_, ?_, ?_, ⟨rfl, rfl, rfl, rfl, rfl, rfl, rfl, trivial⟩, hE1⟩ <;> first | omega | (intro _; omega)
    intro k ρ w2 hI
    obtain ⟨q, f, r, ov, hq, hf, hr, hov, hF, hE2⟩ := hI
    refine W_env _ hF ?_
    refine W_seq ?_
    refine W_seq ?_
    refine W_region rfl ?_
    refine WO_p (PS_move_int rfl) ?_
    refine WO_p (PS_eql rfl rfl) ?_
    refine WO_nil ?_
    refine thn_normal ?_
    refine W_if rfl (fun hb18 => ?_) (fun hb18 => ?_)
    · have hb18p := hb18.h; try simp only [al_ete, al_dfn, Bool.not_eq_true', Bool.not_eq_false', al_ne, Bool.not_not, al_nn] at hb18p
      refine W_skip ?_
      refine thn_normal ?_
      refine W_block ?_
      refine W_seq ?_
      refine W_region rfl ?_
      refine WO_p (PS_move_int rfl) ?_
      refine WO_p (PS_move_int rfl) ?_
      refine WO_call Hvad.call71 (by rfl) (Ret.mono (mul64_ex _ _ _ (by omega) (by omega)) ?_)
      rintro _ w71_18 ⟨h71_18, l71_18, rfl, hm71_18, hh71_18, hl71_18, hw71_18⟩
      obtain rfl := hw71_18.symm
      refine WO_p (PS_move_tuple rfl) ?_
      refine WO_p (PS_extract_int rfl rfl) ?_
      refine WO_p (PS_extract_int rfl rfl) ?_
      refine WO_p (PS_assign_int rfl) ?_
      refine WO_p (PS_assign_int rfl) ?_
      refine WO_nil ?_
      refine thn_normal ?_
      refine W_seq ?_
      refine W_seq ?_
      refine W_region rfl ?_
      refine WO_p (PS_move_int rfl) ?_
      refine WO_p (PS_move_int rfl) ?_
      refine WO_p (PS_lss rfl rfl) ?_
      refine WO_p (PS_move_bool rfl) ?_
      refine WO_if (t := 44) rfl (fun hb21 => ?_) (fun hb21 => ?_)
      · have hb21p := hb21.h; try simp only [al_ete, al_dfn, Bool.not_eq_true', Bool.not_eq_false', al_ne, Bool.not_not, al_nn] at hb21p
        refine WO_guardF rfl rfl hb21.h ?_
        refine WO_guardF rfl rfl hb21.h ?_
        refine WO_guardF rfl rfl hb21.h ?_
        refine WO_guardF rfl rfl hb21.h ?_
        refine WO_guardU rfl rfl ?_
        refine WO_guardU rfl rfl ?_
        refine WO_guardU rfl rfl ?_
        refine WO_guardF rfl rfl hb21.h ?_
        refine WO_p (PS_pickT rfl hb21.h rfl) ?_
        refine WO_nil ?_
        refine thn_normal ?_
        refine W_condT rfl rfl ?_
        refine W_exit ?_
        refine thn_exit ?_
        refine inBlk_exit_ne (by decide) ?_
        refine thn_exit ?_
        refine inBlk_exit ?_
        refine thn_normal ?_
        refine W_seq ?_
        refine W_region rfl ?_
        refine WO_p (PS_move_int rfl) ?_
        refine WO_p (PS_move_int rfl) ?_
        refine WO_p (PS_assign_int rfl) ?_
        refine WO_p (PS_assign_int rfl) ?_
        refine WO_nil ?_
        refine thn_normal ?_
        refine W_ret ?_
        refine bodyQ_ret2 Hvad.results299 rfl rfl (.int _ _) (.int _ _) rfl rfl ?_
        exact ⟨hE2, q, f, rfl, hq, hf⟩
      · have hb21p := hb21.h; try simp only [al_ete, al_dfn, Bool.not_eq_true', Bool.not_eq_false', al_ne, Bool.not_not, al_nn] at hb21p
        refine WO_guardT rfl rfl hb21.h ?_
        refine WO_p (PS_move_int rfl) ?_
        refine WO_guardT rfl rfl hb21.h ?_
        refine WO_p (PS_move_int rfl) ?_
        refine WO_guardT rfl rfl hb21.h ?_
        refine WO_p (PS_eql rfl rfl) ?_
        refine WO_guardT rfl rfl hb21.h ?_
        refine WO_p (PS_move_bool rfl) ?_
        refine WO_if (t := 48) rfl (fun hb23 => ?_) (fun hb23 => ?_)
        · have hb23p := hb23.h; try simp only [al_ete, al_dfn, Bool.not_eq_true', Bool.not_eq_false', al_ne, Bool.not_not, al_nn] at hb23p
          refine WO_guardT rfl rfl hb23.h ?_
          refine WO_p (PS_move_int rfl) ?_
          refine WO_guardT rfl rfl hb23.h ?_
          refine WO_p (PS_move_int rfl) ?_
          refine WO_guardT rfl rfl hb23.h ?_
          refine WO_p (PS_leq rfl rfl) ?_
          refine WO_guardT rfl rfl hb21.h ?_
          refine WO_p (PS_pickT rfl hb23.h rfl) ?_
          refine WO_p (PS_pickF rfl hb21.h rfl) ?_
          refine WO_nil ?_
          refine thn_normal ?_
          refine W_if rfl (fun hb25 => ?_) (fun hb25 => ?_)
          · have hb25p := hb25.h; try simp only [al_ete, al_dfn, Bool.not_eq_true', Bool.not_eq_false', al_ne, Bool.not_not, al_nn] at hb25p
            refine W_exit ?_
            refine thn_exit ?_
            refine inBlk_exit_ne (by decide) ?_
            refine thn_exit ?_
            refine inBlk_exit ?_
            refine thn_normal ?_
            refine W_seq ?_
            refine W_region rfl ?_
            refine WO_p (PS_move_int rfl) ?_
            refine WO_p (PS_move_int rfl) ?_
            refine WO_p (PS_assign_int rfl) ?_
            refine WO_p (PS_assign_int rfl) ?_
            refine WO_nil ?_
            refine thn_normal ?_
            refine W_ret ?_
            refine bodyQ_ret2 Hvad.results299 rfl rfl (.int _ _) (.int _ _) rfl rfl ?_
            exact ⟨hE2, q, f, rfl, hq, hf⟩
          · have hb25p := hb25.h; try simp only [al_ete, al_dfn, Bool.not_eq_true', Bool.not_eq_false', al_ne, Bool.not_not, al_nn] at hb25p
            refine W_skip ?_
            refine thn_normal ?_
            refine W_seq ?_
            refine W_region rfl ?_
            refine WO_p (PS_move_int rfl) ?_
            refine WO_p (PS_sub_u64w rfl rfl) ?_
            refine WO_p (PS_assign_int rfl) ?_
            refine WO_nil ?_
            refine thn_normal ?_
            refine W_seq ?_
            refine W_region rfl ?_
            refine WO_p (PS_move_int rfl) ?_
            refine WO_p (PS_add_u8w rfl rfl) ?_
            refine WO_p (PS_assign_int rfl) ?_
            refine WO_nil ?_
            refine thn_normal ?_
            refine W_region rfl ?_
            refine WO_p (PS_move_int rfl) ?_
            refine WO_p (PS_move_int rfl) ?_
            refine WO_call Hvad.call72 (by rfl) (Ret.mono (add64_ex _ _ _ _ (by omega) (by omega) (by omega)) ?_)
            rintro _ w72_25 ⟨s72_25, k72_25, rfl, hs72_25, hr72_25, hk72_25, hw72_25⟩
            obtain rfl := hw72_25.symm
            refine WO_p (PS_move_tuple rfl) ?_
            refine WO_p (PS_extract_int rfl rfl) ?_
            refine WO_p (PS_extract_int rfl rfl) ?_
            refine WO_p (PS_assign_int rfl) ?_
            refine WO_p (PS_assign_int rfl) ?_
            refine WO_nil ?_
            refine inBlk_normal ?_
            refine thn_normal ?_
            refine ⟨k - 1, by omega, _, _, _, _, ?_, ?_, ?_, ?_, ⟨rfl, rfl, rfl, rfl, rfl, rfl, rfl, trivial⟩, hE2⟩ <;> first | omega | (intro _; omega)
        · have hb23p := hb23.h; try simp only [al_ete, al_dfn, Bool.not_eq_true', Bool.not_eq_false', al_ne, Bool.not_not, al_nn] at hb23p
          refine WO_guardF rfl rfl hb23.h ?_
          refine WO_guardF rfl rfl hb23.h ?_
          refine WO_guardF rfl rfl hb23.h ?_
          refine WO_guardT rfl rfl hb21.h ?_
          refine WO_p (PS_pickF rfl hb23.h rfl) ?_
          refine WO_p (PS_pickF rfl hb21.h rfl) ?_
          refine WO_nil ?_
          refine thn_normal ?_
          refine W_condF rfl rfl ?_
          refine W_skip ?_
          refine thn_normal ?_
          refine W_seq ?_
          refine W_region rfl ?_
          refine WO_p (PS_move_int rfl) ?_
          refine WO_p (PS_sub_u64w rfl rfl) ?_
          refine WO_p (PS_assign_int rfl) ?_
          refine WO_nil ?_
          refine thn_normal ?_
          refine W_seq ?_
          refine W_region rfl ?_
          refine WO_p (PS_move_int rfl) ?_
          refine WO_p (PS_add_u8w rfl rfl) ?_
          refine WO_p (PS_assign_int rfl) ?_
          refine WO_nil ?_
          refine thn_normal ?_
          refine W_region rfl ?_
          refine WO_p (PS_move_int rfl) ?_
          refine WO_p (PS_move_int rfl) ?_
          refine WO_call Hvad.call72 (by rfl) (Ret.mono (add64_ex _ _ _ _ (by omega) (by omega) (by omega)) ?_)
          rintro _ w72_26 ⟨s72_26, k72_26, rfl, hs72_26, hr72_26, hk72_26, hw72_26⟩
          obtain rfl := hw72_26.symm
          refine WO_p (PS_move_tuple rfl) ?_
          refine WO_p (PS_extract_int rfl rfl) ?_
          refine WO_p (PS_extract_int rfl rfl) ?_
          refine WO_p (PS_assign_int rfl) ?_
          refine WO_p (PS_assign_int rfl) ?_
          refine WO_nil ?_
          refine inBlk_normal ?_
          refine thn_normal ?_
          refine ⟨k - 1, by omega, _, _, _, _, ?_, ?_, ?_, ?_, ⟨rfl, rfl, rfl, rfl, rfl, rfl, rfl, trivial⟩, hE2⟩ <;> first | omega | (intro _; omega)
    · have hb18p := hb18.h; try simp only [al_ete, al_dfn, Bool.not_eq_true', Bool.not_eq_false', al_ne, Bool.not_not, al_nn] at hb18p
      refine W_exit ?_
      refine thn_exit ?_
      refine thn_exit ?_
      refine inBlk_exit ?_
      refine thn_normal ?_
      refine W_seq ?_
      refine W_region rfl ?_
      refine WO_p (PS_move_int rfl) ?_
      refine WO_p (PS_move_int rfl) ?_
      refine WO_p (PS_assign_int rfl) ?_
      refine WO_p (PS_assign_int rfl) ?_
      refine WO_nil ?_
      refine thn_normal ?_
      refine W_ret ?_
      refine bodyQ_ret2 Hvad.results299 rfl rfl (.int _ _) (.int _ _) rfl rfl ?_
      exact ⟨hE2, q, f, rfl, hq, hf⟩

end Go.Proofs.YgvadwGreat
