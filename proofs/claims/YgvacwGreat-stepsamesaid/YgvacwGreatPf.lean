import Derived.Test.YgvacwGreatPe
namespace Go.Proofs.YgvacwGreat
set_option linter.unusedSimpArgs false
set_option linter.unusedVariables false
theorem AB.whole {w : World} {b n : Nat} {T : TypeId} {fz : Nat × Nat} {L : List Int} (hb : Hb w b (.cells (ic .u8 L) T fz)) (hL : By L n) : AB w (some ⟨b, 0, none⟩, n, n) L :=
  ⟨hL.1, Nat.le_refl _, hL.2, fun _ => ⟨b, 0, _, T, fz, rfl, hb, by show 0 + n ≤ _; rw [size_ic, hL.1]; omega, by show Xt _ 0 (0 + n) _; exact Xt.whole rfl (by rw [size_ic]; exact hL.1)⟩⟩
theorem pow2_dv (k : Nat) : dv (List.replicate (k / 8) 0 ++ [((2 ^ (k % 8) : Nat) : Int)]) = 2 ^ k := by
  rw [dv_append, dv_rep0, List.length_replicate]
  simp only [dv, Nat.mul_zero, Nat.add_zero, Nat.zero_add]
  have p1 : (256 : Nat) ^ (k / 8) = 2 ^ (8 * (k / 8)) := by rw [Nat.pow_mul]
  rw [p1, Int.toNat_natCast, ← Nat.pow_add]
  congr 1; omega
theorem pow8_lt (k : Nat) : 2 ^ (k % 8) ≤ 128 := by
  have hr : k % 8 < 8 := Nat.mod_lt _ (by decide)
  generalize k % 8 = r at *
  match r, hr with
  | 0, _ => decide
  | 1, _ => decide
  | 2, _ => decide
  | 3, _ => decide
  | 4, _ => decide
  | 5, _ => decide
  | 6, _ => decide
  | 7, _ => decide
theorem pow2_dg (k : Nat) : dg (2 ^ k) = List.replicate (k / 8) 0 ++ [((2 ^ (k % 8) : Nat) : Int)] := by
  rw [← pow2_dv k]
  have h1 := pow8_lt k
  have h2 : 0 < 2 ^ (k % 8) := Nat.pow_pos (by decide)
  refine dg_dv ?_ (Or.inr ?_)
  · intro x hx
    rcases List.mem_append.1 hx with hx | hx
    · rw [(List.mem_replicate.1 hx).2]; omega
    · rw [List.mem_singleton.1 hx]; omega
  · simp only [List.length_append, List.length_replicate, List.length_singleton, Nat.add_sub_cancel]
    rw [List.getD_eq_getElem?_getD, List.getElem?_append_right (by simp)]
    simp
    intro h
    have h9 : (0 : Int) < 2 ^ (k % 8) := Int.pow_pos (by decide)
    omega
theorem pow2_sz (k : Nat) : sz (2 ^ k) = k / 8 + 1 := by unfold sz; rw [pow2_dg]; simp

set_option maxRecDepth 10000 in
set_option maxHeartbeats 4000000 in
theorem fromU64X_spec [Om] (a : Int) (w : World) (hO : OmB w) (ha : 0 ≤ a ∧ a ≤ 18446744073709551615) : Ret Hvac.prog 81 #[.int .u64 a] w fun u w' => Ext w w' ∧ ∃ s' : SV, u = .slice s'.1 s'.2.1 s'.2.2 ∧ NN w' s' a.toNat := by
  obtain ⟨n, rfl⟩ : ∃ n : Nat, a = (n : Int) := ⟨a.toNat, by omega⟩
  rw [Int.toNat_natCast]
  refine Ret_of_W Hvac.func81 rfl rfl ?_
  refine W_seq ?_
  refine W_region rfl ?_
  refine WO_p (PS_assign_slice rfl) ?_
  refine WO_nil ?_
  refine thn_normal ?_
  refine W_seq ?_
  refine W_region rfl ?_
  refine WO_allocG Hvac.zeroValue249 ?_
  intro b3 v3 hg3 hE3 hH3 hl3
  try simp only [size_alloc, size_setB, size_drew] at hg3
  have hzz3 := hE3.1
  try simp only [size_alloc, size_setB, size_drew] at hzz3
  replace hH3 : Hb v3 b3 (.cells (ic .u8 (List.replicate 8 0)) 249 (0, 0)) := hH3
  refine WO_nil ?_
  refine thn_normal ?_
  refine W_seq ?_
  refine W_seq ?_
  refine W_region rfl ?_
  refine WO_p (PS_move_int rfl) ?_
  refine WO_nil ?_
  refine thn_normal ?_
  refine W_block ?_
  refine W_loopN (fun k ρ w' => ∃ (i : Nat) (L : List Int), i + k = 8 ∧ By L 8 ∧ (∀ q, q < i → L.getD q 0 = (dg n).getD q 0) ∧ Fr [(0, .int .u64 ((n / 256 ^ i : Nat) : Int)), (3, .pointer (some ⟨b3, 0, none⟩)), (5, .int .i64 i)] ρ ∧ Ext w w' ∧ Hb w' b3 (.cells (ic .u8 L) 249 (0, 0))) 8 ?_ ?_
  · exact ⟨0, List.replicate 8 0, by omega, rep_by 8, fun q h => absurd h (Nat.not_lt_zero q), ⟨by show _ = Value.int .u64 ((n / 256 ^ 0 : Nat) : Int); rw [Nat.pow_zero, Nat.div_one]; rfl, rfl, rfl, trivial⟩, (by repeat (first | assumption | exact Ext.refl _ | refine Ext.alloc ?_ _ | refine Ext.drew ?_ | refine Ext.setB ?_ (by first | omega | (simp only [size_alloc, size_setB, size_drew]; omega)) _ | refine Ext.trans ?_ (by assumption))), hH3⟩
  intro k2 ρ2 w2 hI2
  obtain ⟨i, L, hik, hL, hdone, hFr2, hE2, hbp2⟩ := hI2
  refine W_env _ hFr2 ?_
  have hz2 := hE2.1
  refine W_seq ?_
  refine W_region rfl ?_
  refine WO_p (PS_lss rfl rfl) ?_
  refine WO_nil ?_
  refine thn_normal ?_
  refine W_seq ?_
  refine W_if rfl (fun hb2 => ?_) (fun hb2 => ?_)
  · have hb2p := hb2.h; try simp only [al_ete, al_dfn, Bool.not_eq_true', Bool.not_eq_false', al_ne, Bool.not_not, al_nn] at hb2p
    refine W_skip ?_
    refine thn_normal ?_
    refine W_seq ?_
    refine W_block ?_
    refine W_seq ?_
    refine W_region rfl ?_
    refine WO_p (PS_move_int rfl) ?_
    refine WO_p (PS_assign_int rfl) ?_
    refine WO_nil ?_
    refine thn_normal ?_
    refine W_seq ?_
    refine W_region rfl ?_
    refine WO_p (PS_move_int rfl) ?_
    refine WO_p (PS_move_int rfl) ?_
    refine WO_p (PS_conv_u8w Hvac.runUnderlying26 Hvac.runUnderlying5 rfl) ?_
    refine WO_p (PS_indexA Hvac.runUnderlying249 Hvac.sizeOf5 rfl rfl (by omega) (by omega)) ?_
    refine WO_store1 Hvac.sizeOf5 rfl (v := .int _ _) rfl hbp2.h rfl (by rw [size_ic, hL.1]; omega) rfl ?_
    rw [show ((i : Int)).toNat = i from Int.toNat_natCast i, ic_set]
    refine WO_nil ?_
    refine thn_normal ?_
    refine W_region rfl ?_
    refine WO_p (PS_move_int rfl) ?_
    refine WO_p (PS_shr_u64 8 rfl rfl (by decide) rfl) ?_
    refine WO_p (PS_assign_int rfl) ?_
    refine WO_nil ?_
    refine inBlk_normal ?_
    refine thn_normal ?_
    refine W_region rfl ?_
    refine WO_p (PS_add_i64n rfl rfl (by omega) (by omega)) ?_
    refine WO_p (PS_move_int rfl) ?_
    refine WO_nil ?_
    refine thn_normal ?_
    have hx : ((n / 256 ^ i : Nat) : Int) / 2 ^ 8 = ((n / 256 ^ (i + 1) : Nat) : Int) := by
      rw [Nat.pow_succ, ← Nat.div_div_eq_div_mul]; omega
    exact ⟨k2 - 1, by omega, i + 1, _, by omega, set_by hL (by omega), fun q hq => by
      rw [gd_set _ _ _ _ (by rw [hL.1]; omega)]
      split
      · rename_i e; rw [e, dg_gd]; omega
      · exact hdone q (by omega), ⟨congrArg (Value.int .u64) hx, rfl, congrArg (Value.int .i64) (by omega), trivial⟩, Ext.setB hE2 (by omega) _, Hb.setSame hbp2⟩
  · have hb2p := hb2.h; try simp only [al_ete, al_dfn, Bool.not_eq_true', Bool.not_eq_false', al_ne, Bool.not_not, al_nn] at hb2p
    refine W_exit ?_
    refine thn_exit ?_
    refine thn_exit ?_
    refine inBlk_exit ?_
    refine thn_normal ?_
    refine W_seq ?_
    refine W_region rfl ?_
    refine WO_p (PS_slA Hvac.runUnderlying249 Hvac.sizeOf5 rfl (by omega)) ?_
    refine WO_call Hvac.call79 (by rfl) (Ret.mono (normX_spec (some ⟨b3, 0, none⟩, 8, 8) L _ (hO.ext (by repeat (first | assumption | exact Ext.refl _ | refine Ext.alloc ?_ _ | refine Ext.drew ?_ | refine Ext.setB ?_ (by first | omega | (simp only [size_alloc, size_setB, size_drew]; omega)) _ | exact Ext.trans (by assumption) (by assumption) | refine Ext.trans ?_ (by assumption)))) (AB.whole hbp2 hL) (by show (8:Nat) ≤ _; decide)) ?_)
    rintro _ w9 ⟨hE9, s9, rfl, hs9⟩
    refine WO_p (PS_assign_slice rfl) ?_
    refine WO_nil ?_
    refine thn_normal ?_
    refine W_ret ?_
    refine bodyQ_ret1 Hvac.results81 rfl (.slice _ _ _) rfl ?_
    have hi8 : i = 8 := by omega
    have hn8 : sz n ≤ 8 := sz64 (by omega)
    have hv : dv L = n := nat_eq_of_gd hL.2 (by rw [hL.1]; exact hn8) (fun q hq => hdone q (by rw [hL.1] at hq; omega))
    rw [hv] at hs9
    exact ⟨(by repeat (first | assumption | exact Ext.refl _ | refine Ext.alloc ?_ _ | refine Ext.drew ?_ | refine Ext.setB ?_ (by first | omega | (simp only [size_alloc, size_setB, size_drew]; omega)) _ | refine Ext.trans ?_ (by assumption))), s9, rfl, hs9⟩

set_option maxRecDepth 10000 in
theorem num_spec [Om] (a : Int) (w : World) (hO : OmB w) (ha : 0 ≤ a ∧ a ≤ 18446744073709551615) : Ret Hvac.prog 19 #[.int .u64 a] w fun u w' => Ext w w' ∧ ∃ s' : SV, u = .slice s'.1 s'.2.1 s'.2.2 ∧ NN w' s' a.toNat := by
  refine Ret_of_W Hvac.func19 rfl rfl ?_
  refine W_seq ?_
  refine W_region rfl ?_
  refine WO_p (PS_assign_slice rfl) ?_
  refine WO_nil ?_
  refine thn_normal ?_
  refine W_seq ?_
  refine W_region rfl ?_
  refine WO_p (PS_move_int rfl) ?_
  refine WO_call Hvac.call81 (by rfl) (Ret.mono (fromU64X_spec a _ (hO.ext (by repeat (first | assumption | exact Ext.refl _ | refine Ext.alloc ?_ _ | refine Ext.drew ?_ | refine Ext.setB ?_ (by first | omega | (simp only [size_alloc, size_setB, size_drew]; omega)) _ | exact Ext.trans (by assumption) (by assumption) | refine Ext.trans ?_ (by assumption)))) ha) ?_)
  rintro _ w9 ⟨hE9, s9, rfl, hs9⟩
  refine WO_p (PS_assign_slice rfl) ?_
  refine WO_nil ?_
  refine thn_normal ?_
  refine W_ret ?_
  refine bodyQ_ret1 Hvac.results19 rfl (.slice _ _ _) rfl ?_
  exact ⟨(by repeat (first | assumption | exact Ext.refl _ | refine Ext.alloc ?_ _ | refine Ext.drew ?_ | refine Ext.setB ?_ (by first | omega | (simp only [size_alloc, size_setB, size_drew]; omega)) _ | refine Ext.trans ?_ (by assumption))), s9, rfl, hs9⟩

set_option maxRecDepth 10000 in
set_option maxHeartbeats 4000000 in
theorem u64X_spec (s : SV) (L : List Int) (w : World) (hs : AB w s L) (hm : s.2.1 ≤ 100000000) : Ret Hvac.prog 101 #[.slice s.1 s.2.1 s.2.2] w fun u w' => Ext w w' ∧ u = .tuple #[.int .u64 (if dv L < 18446744073709551616 then ((dv L : Nat) : Int) else 0), .bool (decide (dv L < 18446744073709551616))] := by
  obtain ⟨p, n, cp⟩ := s
  have hlc := hs.cap
  have hln := hs.len
  have hby := hs.by_
  dsimp only at hlc hln hby hm ⊢
  have htr := hs.trim
  dsimp only at htr
  obtain ⟨htA, htl⟩ := htr
  generalize hnn : dv L = nn at *
  refine Ret_of_W Hvac.func101 rfl rfl ?_
  refine W_seq ?_
  refine W_region rfl ?_
  refine WO_p (PS_assign_int rfl) ?_
  refine WO_p (PS_assign_bool rfl) ?_
  refine WO_nil ?_
  refine thn_normal ?_
  refine W_seq ?_
  refine W_region rfl ?_
  refine WO_p (PS_move_slice rfl) ?_
  refine WO_call Hvac.call86 (by rfl) (Ret.mono (trimX_spec (p, n, cp) L _ (AB.ext hs (by repeat (first | assumption | exact Ext.refl _ | refine Ext.alloc ?_ _ | refine Ext.drew ?_ | refine Ext.setB ?_ (by first | omega | (simp only [size_alloc, size_setB, size_drew]; omega)) _ | exact Ext.trans (by assumption) (by assumption) | refine Ext.trans ?_ (by assumption)))) (by dsimp only; omega)) ?_)
  rintro _ w1 ⟨hE1, hu1⟩
  rw [hnn] at hu1
  subst hu1
  have hz1 := hE1.1
  refine WO_p (PS_assign_slice rfl) ?_
  refine WO_nil ?_
  refine thn_normal ?_
  refine W_seq ?_
  refine W_seq ?_
  refine W_region rfl ?_
  refine WO_p (PS_move_slice rfl) ?_
  refine WO_p (PS_lenS Hvac.runUnderlying92 rfl) ?_
  refine WO_p (PS_gtr rfl rfl) ?_
  refine WO_nil ?_
  refine thn_normal ?_
  refine W_if rfl (fun hb3 => ?_) (fun hb3 => ?_)
  · have hb3p := hb3.h; try simp only [al_ete, al_dfn, Bool.not_eq_true', Bool.not_eq_false', al_ne, Bool.not_not, al_nn] at hb3p
    have hbig : ¬ nn < 18446744073709551616 := by rw [sz_lt64]; omega
    refine W_seq ?_
    refine W_region rfl ?_
    refine WO_p (PS_assign_int rfl) ?_
    refine WO_p (PS_assign_bool rfl) ?_
    refine WO_nil ?_
    refine thn_normal ?_
    refine W_ret ?_
    refine thn_ret ?_
    refine bodyQ_ret2 Hvac.results101 rfl rfl (.int _ _) (.bool _) rfl rfl ?_
    first
    | (refine ⟨(by repeat (first | assumption | exact Ext.refl _ | refine Ext.alloc ?_ _ | refine Ext.drew ?_ | refine Ext.setB ?_ (by first | omega | (simp only [size_alloc, size_setB, size_drew]; omega)) _ | refine Ext.trans ?_ (by assumption))), ?_⟩
       rw [if_neg hbig, al_ef hbig] <;> rfl)
    | (have hi0 : i = 0 := by omega
       refine ⟨(by repeat (first | assumption | exact Ext.refl _ | refine Ext.alloc ?_ _ | refine Ext.drew ?_ | refine Ext.setB ?_ (by first | omega | (simp only [size_alloc, size_setB, size_drew]; omega)) _ | refine Ext.trans ?_ (by assumption))), ?_⟩
       rw [if_pos hsm, al_et hsm, hi0, List.drop_zero, dv_dg] <;> rfl)
  · have hb3p := hb3.h; try simp only [al_ete, al_dfn, Bool.not_eq_true', Bool.not_eq_false', al_ne, Bool.not_not, al_nn] at hb3p
    have hsm : nn < 18446744073709551616 := by rw [sz_lt64]; omega
    refine W_skip ?_
    refine thn_normal ?_
    refine W_seq ?_
    refine W_region rfl ?_
    refine WO_p (PS_assign_int rfl) ?_
    refine WO_nil ?_
    refine thn_normal ?_
    refine W_seq ?_
    refine W_seq ?_
    refine W_region rfl ?_
    refine WO_p (PS_move_slice rfl) ?_
    refine WO_p (PS_lenS Hvac.runUnderlying92 rfl) ?_
    refine WO_p (PS_assign_int rfl) ?_
    refine WO_nil ?_
    refine thn_normal ?_
    refine W_block ?_
    refine W_loopN (fun k ρ w' => ∃ (i : Nat), i = k ∧ i ≤ sz nn ∧ Fr [(0, .slice p (sz nn) (sz nn)), (4, .int .u64 ((dv ((dg nn).drop i) : Nat) : Int)), (5, .int .i64 i)] ρ ∧ Ext w w') (sz nn) ?_ ?_
    · exact ⟨sz nn, rfl, by omega, ⟨rfl, by rw [List.drop_eq_nil_of_le (by rw [dg_len]; exact Nat.le_refl _)] <;> rfl, rfl, trivial⟩, (by repeat (first | assumption | exact Ext.refl _ | refine Ext.alloc ?_ _ | refine Ext.drew ?_ | refine Ext.setB ?_ (by first | omega | (simp only [size_alloc, size_setB, size_drew]; omega)) _ | refine Ext.trans ?_ (by assumption)))⟩
    intro k2 ρ2 w2 hI2
    obtain ⟨i, hik, hin, hFr2, hE2⟩ := hI2
    refine W_env _ hFr2 ?_
    have hz2 := hE2.1
    refine W_seq ?_
    refine W_seq ?_
    refine W_region rfl ?_
    refine WO_p (PS_move_int rfl) ?_
    refine WO_p (PS_gtr rfl rfl) ?_
    refine WO_nil ?_
    refine thn_normal ?_
    refine W_if rfl (fun hb5 => ?_) (fun hb5 => ?_)
    · have hb5p := hb5.h; try simp only [al_ete, al_dfn, Bool.not_eq_true', Bool.not_eq_false', al_ne, Bool.not_not, al_nn] at hb5p
      obtain ⟨b, o, r, T, fz, hp, hb, hrs, hat⟩ := htA.at_ (by omega)
      subst hp
      have hj1 : ((i : Int) - 1).toNat = i - 1 := by omega
      have hce : Ce r (o + ((i : Int) - 1).toNat * 1) (.int .u8 ((dg nn).getD (i - 1) 0)) := by rw [hj1]; exact hat (i - 1) (by omega)
      have hbE := hb.ext hE2
      have hgb := gd_by (dg_by nn) (i - 1)
      have hds := dv_drop (dg nn) (i - 1) (by rw [dg_len]; omega)
      rw [show i - 1 + 1 = i by omega] at hds
      have hdl := dv_lt (L := (dg nn).drop (i - 1)) (fun x hx => dg_by nn x (List.mem_of_mem_drop hx))
      rw [List.length_drop, dg_len] at hdl
      have hdl2 : dv ((dg nn).drop (i - 1)) < 256 ^ 8 := Nat.lt_of_lt_of_le hdl (Nat.pow_le_pow_right (by decide) (by omega))
      have hdl3 : (256 : Nat) ^ 8 = 18446744073709551616 := by decide
      have hor := or8 (x := ((dv ((dg nn).drop i) : Nat) : Int)) hgb (by omega) (by omega)
      refine W_skip ?_
      refine thn_normal ?_
      refine W_seq ?_
      refine W_block ?_
      refine W_region rfl ?_
      refine WO_p (PS_move_int rfl) ?_
      refine WO_p (PS_shl_u64 8 rfl rfl (by decide) rfl) ?_
      refine WO_p (PS_move_slice rfl) ?_
      refine WO_p (PS_move_int rfl) ?_
      refine WO_p (PS_sub_i64n rfl rfl (by omega) (by omega)) ?_
      refine WO_p (PS_indexS Hvac.runUnderlying92 Hvac.sizeOf5 rfl rfl (by omega) (by omega)) ?_
      refine WO_load (.int _ _) Hvac.isAgg5 rfl (Hb.h (by repeat (first | assumption | exact Hb.newY _ _ | refine Hb.alloc ?_ | refine Hb.drew ?_ | refine Hb.ext (by assumption) ?_ | exact Hb.setSameL (by first | omega | (simp only [size_alloc, size_setB, size_drew]; omega)) | exact Hb.setSame (by assumption) | refine Hb.set (by first | omega | (simp only [size_alloc, size_setB, size_drew]; omega)) ?_ ))) (Ce.h (by first | assumption | exact ⟨rfl⟩)) ?_
      refine WO_p (PS_conv_u64n Hvac.runUnderlying5 Hvac.runUnderlying26 rfl (by omega) (by omega)) ?_
      refine WO_p (PS_or_u64 rfl rfl) ?_
      refine WO_p (PS_assign_int rfl) ?_
      refine WO_nil ?_
      refine inBlk_normal ?_
      refine thn_normal ?_
      refine W_region rfl ?_
      refine WO_p (PS_move_int rfl) ?_
      refine WO_p (PS_sub_i64n rfl rfl (by omega) (by omega)) ?_
      refine WO_p (PS_assign_int rfl) ?_
      refine WO_nil ?_
      refine thn_normal ?_
      exact ⟨k2 - 1, by omega, i - 1, by omega, by omega, ⟨rfl, congrArg (Value.int .u64) (by rw [hor, hds]; omega), congrArg (Value.int .i64) (by omega), trivial⟩, (by repeat (first | assumption | exact Ext.refl _ | refine Ext.alloc ?_ _ | refine Ext.drew ?_ | refine Ext.setB ?_ (by first | omega | (simp only [size_alloc, size_setB, size_drew]; omega)) _ | refine Ext.trans ?_ (by assumption)))⟩
    · have hb5p := hb5.h; try simp only [al_ete, al_dfn, Bool.not_eq_true', Bool.not_eq_false', al_ne, Bool.not_not, al_nn] at hb5p
      refine W_exit ?_
      refine thn_exit ?_
      refine thn_exit ?_
      refine inBlk_exit ?_
      refine thn_normal ?_
      refine W_seq ?_
      refine W_region rfl ?_
      refine WO_p (PS_move_int rfl) ?_
      refine WO_p (PS_assign_int rfl) ?_
      refine WO_p (PS_assign_bool rfl) ?_
      refine WO_nil ?_
      refine thn_normal ?_
      refine W_ret ?_
      refine bodyQ_ret2 Hvac.results101 rfl rfl (.int _ _) (.bool _) rfl rfl ?_
      first
      | (refine ⟨(by repeat (first | assumption | exact Ext.refl _ | refine Ext.alloc ?_ _ | refine Ext.drew ?_ | refine Ext.setB ?_ (by first | omega | (simp only [size_alloc, size_setB, size_drew]; omega)) _ | refine Ext.trans ?_ (by assumption))), ?_⟩
         rw [if_neg hbig, al_ef hbig] <;> rfl)
      | (have hi0 : i = 0 := by omega
         refine ⟨(by repeat (first | assumption | exact Ext.refl _ | refine Ext.alloc ?_ _ | refine Ext.drew ?_ | refine Ext.setB ?_ (by first | omega | (simp only [size_alloc, size_setB, size_drew]; omega)) _ | refine Ext.trans ?_ (by assumption))), ?_⟩
         rw [if_pos hsm, al_et hsm, hi0, List.drop_zero, dv_dg] <;> rfl)

set_option maxRecDepth 10000 in
set_option maxHeartbeats 4000000 in
theorem cmpX_spec (s t : SV) (A B : List Int) (w : World) (hs : AB w s A) (ht : AB w t B) (hm : s.2.1 ≤ 100000000) (hm2 : t.2.1 ≤ 100000000) : Ret Hvac.prog 76 #[.slice s.1 s.2.1 s.2.2, .slice t.1 t.2.1 t.2.2] w fun u w' => Ext w w' ∧ u = .int .i8 (cmpI (dv A) (dv B)) := by
  obtain ⟨p, n, cp⟩ := s
  obtain ⟨p', n', cp'⟩ := t
  have htr := hs.trim
  have htr2 := ht.trim
  dsimp only at htr htr2 hm hm2 ⊢
  obtain ⟨htA, htl⟩ := htr
  obtain ⟨htB, htl2⟩ := htr2
  generalize hnn : dv A = nn at *
  generalize hnn2 : dv B = mm at *
  refine Ret_of_W Hvac.func76 rfl rfl ?_
  refine W_seq ?_
  refine W_region rfl ?_
  refine WO_p (PS_assign_int rfl) ?_
  refine WO_nil ?_
  refine thn_normal ?_
  refine W_seq ?_
  refine W_region rfl ?_
  refine WO_p (PS_move_slice rfl) ?_
  refine WO_call Hvac.call86 (by rfl) (Ret.mono (trimX_spec (p, n, cp) A _ (AB.ext hs (by repeat (first | assumption | exact Ext.refl _ | refine Ext.alloc ?_ _ | refine Ext.drew ?_ | refine Ext.setB ?_ (by first | omega | (simp only [size_alloc, size_setB, size_drew]; omega)) _ | exact Ext.trans (by assumption) (by assumption) | refine Ext.trans ?_ (by assumption)))) (by dsimp only; omega)) ?_)
  rintro _ w1 ⟨hE1, hu1⟩
  rw [hnn] at hu1
  subst hu1
  have hz1 := hE1.1
  refine WO_p (PS_assign_slice rfl) ?_
  refine WO_nil ?_
  refine thn_normal ?_
  refine W_seq ?_
  refine W_region rfl ?_
  refine WO_p (PS_move_slice rfl) ?_
  refine WO_call Hvac.call86 (by rfl) (Ret.mono (trimX_spec (p', n', cp') B _ (AB.ext ht (by repeat (first | assumption | exact Ext.refl _ | refine Ext.alloc ?_ _ | refine Ext.drew ?_ | refine Ext.setB ?_ (by first | omega | (simp only [size_alloc, size_setB, size_drew]; omega)) _ | exact Ext.trans (by assumption) (by assumption) | refine Ext.trans ?_ (by assumption)))) (by dsimp only; omega)) ?_)
  rintro _ w2 ⟨hE2, hu2⟩
  rw [hnn2] at hu2
  subst hu2
  have hz2 := hE2.1
  refine WO_p (PS_assign_slice rfl) ?_
  refine WO_nil ?_
  refine thn_normal ?_
  refine W_seq ?_
  refine W_seq ?_
  refine W_region rfl ?_
  refine WO_p (PS_move_slice rfl) ?_
  refine WO_p (PS_lenS Hvac.runUnderlying92 rfl) ?_
  refine WO_p (PS_move_slice rfl) ?_
  refine WO_p (PS_lenS Hvac.runUnderlying92 rfl) ?_
  refine WO_p (PS_lss rfl rfl) ?_
  refine WO_nil ?_
  refine thn_normal ?_
  refine W_if rfl (fun hb4 => ?_) (fun hb4 => ?_)
  · have hb4p := hb4.h; try simp only [al_ete, al_dfn, Bool.not_eq_true', Bool.not_eq_false', al_ne, Bool.not_not, al_nn] at hb4p
    have hlt : nn < mm := by
      have h1 := lt_sz nn
      have h2 := le_of_sz (n := mm) (by intro h0; have h9 := hb4p; rw [h0, sz_zero] at h9; omega)
      exact Nat.lt_of_lt_of_le h1 (Nat.le_trans (Nat.pow_le_pow_right (by decide) (by omega)) h2)
    refine W_seq ?_
    refine W_region rfl ?_
    refine WO_p (PS_assign_int rfl) ?_
    refine WO_nil ?_
    refine thn_normal ?_
    refine W_ret ?_
    refine thn_ret ?_
    refine bodyQ_ret1 Hvac.results76 rfl (.int _ _) rfl ?_
    first
    | (refine ⟨(by repeat (first | assumption | exact Ext.refl _ | refine Ext.alloc ?_ _ | refine Ext.drew ?_ | refine Ext.setB ?_ (by first | omega | (simp only [size_alloc, size_setB, size_drew]; omega)) _ | refine Ext.trans ?_ (by assumption))), ?_⟩
       unfold cmpI
       rw [if_pos hlt]; done)
    | (refine ⟨(by repeat (first | assumption | exact Ext.refl _ | refine Ext.alloc ?_ _ | refine Ext.drew ?_ | refine Ext.setB ?_ (by first | omega | (simp only [size_alloc, size_setB, size_drew]; omega)) _ | refine Ext.trans ?_ (by assumption))), ?_⟩
       unfold cmpI
       rw [if_neg (by omega), if_neg (by omega)]; done)
    | (have hi0 : i = 0 := by omega
       have he : nn = mm := by
         have := dv_gdext (a := dg nn) (b := dg mm) (by rw [dg_len, dg_len]; exact hse) (fun q h => heq q (by omega) (by rw [dg_len] at h; exact h))
         rwa [dv_dg, dv_dg] at this
       refine ⟨(by repeat (first | assumption | exact Ext.refl _ | refine Ext.alloc ?_ _ | refine Ext.drew ?_ | refine Ext.setB ?_ (by first | omega | (simp only [size_alloc, size_setB, size_drew]; omega)) _ | refine Ext.trans ?_ (by assumption))), ?_⟩
       unfold cmpI
       rw [if_neg (by omega), if_pos he]; done)
  · have hb4p := hb4.h; try simp only [al_ete, al_dfn, Bool.not_eq_true', Bool.not_eq_false', al_ne, Bool.not_not, al_nn] at hb4p
    refine W_skip ?_
    refine thn_normal ?_
    refine W_seq ?_
    refine W_seq ?_
    refine W_region rfl ?_
    refine WO_p (PS_move_slice rfl) ?_
    refine WO_p (PS_lenS Hvac.runUnderlying92 rfl) ?_
    refine WO_p (PS_move_slice rfl) ?_
    refine WO_p (PS_lenS Hvac.runUnderlying92 rfl) ?_
    refine WO_p (PS_gtr rfl rfl) ?_
    refine WO_nil ?_
    refine thn_normal ?_
    refine W_if rfl (fun hb6 => ?_) (fun hb6 => ?_)
    · have hb6p := hb6.h; try simp only [al_ete, al_dfn, Bool.not_eq_true', Bool.not_eq_false', al_ne, Bool.not_not, al_nn] at hb6p
      have hgt : mm < nn := by
        have h1 := lt_sz mm
        have h2 := le_of_sz (n := nn) (by intro h0; have h9 := hb6p; rw [h0, sz_zero] at h9; omega)
        exact Nat.lt_of_lt_of_le h1 (Nat.le_trans (Nat.pow_le_pow_right (by decide) (by omega)) h2)
      refine W_seq ?_
      refine W_region rfl ?_
      refine WO_p (PS_assign_int rfl) ?_
      refine WO_nil ?_
      refine thn_normal ?_
      refine W_ret ?_
      refine thn_ret ?_
      refine bodyQ_ret1 Hvac.results76 rfl (.int _ _) rfl ?_
      first
      | (refine ⟨(by repeat (first | assumption | exact Ext.refl _ | refine Ext.alloc ?_ _ | refine Ext.drew ?_ | refine Ext.setB ?_ (by first | omega | (simp only [size_alloc, size_setB, size_drew]; omega)) _ | refine Ext.trans ?_ (by assumption))), ?_⟩
         unfold cmpI
         rw [if_pos hlt]; done)
      | (refine ⟨(by repeat (first | assumption | exact Ext.refl _ | refine Ext.alloc ?_ _ | refine Ext.drew ?_ | refine Ext.setB ?_ (by first | omega | (simp only [size_alloc, size_setB, size_drew]; omega)) _ | refine Ext.trans ?_ (by assumption))), ?_⟩
         unfold cmpI
         rw [if_neg (by omega), if_neg (by omega)]; done)
      | (have hi0 : i = 0 := by omega
         have he : nn = mm := by
           have := dv_gdext (a := dg nn) (b := dg mm) (by rw [dg_len, dg_len]; exact hse) (fun q h => heq q (by omega) (by rw [dg_len] at h; exact h))
           rwa [dv_dg, dv_dg] at this
         refine ⟨(by repeat (first | assumption | exact Ext.refl _ | refine Ext.alloc ?_ _ | refine Ext.drew ?_ | refine Ext.setB ?_ (by first | omega | (simp only [size_alloc, size_setB, size_drew]; omega)) _ | refine Ext.trans ?_ (by assumption))), ?_⟩
         unfold cmpI
         rw [if_neg (by omega), if_pos he]; done)
    · have hb6p := hb6.h; try simp only [al_ete, al_dfn, Bool.not_eq_true', Bool.not_eq_false', al_ne, Bool.not_not, al_nn] at hb6p
      have hse : sz nn = sz mm := by omega
      refine W_skip ?_
      refine thn_normal ?_
      refine W_seq ?_
      refine W_seq ?_
      refine W_region rfl ?_
      refine WO_p (PS_move_slice rfl) ?_
      refine WO_p (PS_lenS Hvac.runUnderlying92 rfl) ?_
      refine WO_p (PS_assign_int rfl) ?_
      refine WO_nil ?_
      refine thn_normal ?_
      refine W_block ?_
      refine W_loopN (fun k ρ w' => ∃ (i : Nat), i = k ∧ i ≤ sz nn ∧ (∀ q, i ≤ q → q < sz nn → (dg nn).getD q 0 = (dg mm).getD q 0) ∧ Fr [(0, .slice p (sz nn) (sz nn)), (1, .slice p' (sz mm) (sz mm)), (5, .int .i64 i)] ρ ∧ Ext w w') (sz nn) ?_ ?_
      · exact ⟨sz nn, rfl, by omega, fun q h1 h2 => by omega, ⟨rfl, rfl, rfl, trivial⟩, (by repeat (first | assumption | exact Ext.refl _ | refine Ext.alloc ?_ _ | refine Ext.drew ?_ | refine Ext.setB ?_ (by first | omega | (simp only [size_alloc, size_setB, size_drew]; omega)) _ | refine Ext.trans ?_ (by assumption)))⟩
      intro k3 ρ3 w3 hI3
      obtain ⟨i, hik, hin, heq, hFr3, hE3⟩ := hI3
      refine W_env _ hFr3 ?_
      have hz3 := hE3.1
      refine W_seq ?_
      refine W_seq ?_
      refine W_region rfl ?_
      refine WO_p (PS_move_int rfl) ?_
      refine WO_p (PS_gtr rfl rfl) ?_
      refine WO_nil ?_
      refine thn_normal ?_
      refine W_if rfl (fun hb8 => ?_) (fun hb8 => ?_)
      · have hb8p := hb8.h; try simp only [al_ete, al_dfn, Bool.not_eq_true', Bool.not_eq_false', al_ne, Bool.not_not, al_nn] at hb8p
        obtain ⟨b, o, r, T, fz, hp, hb, hrs, hat⟩ := htA.at_ (by omega)
        subst hp
        obtain ⟨b', o', r', T', fz', hp', hb', hrs', hat'⟩ := htB.at_ (by omega)
        subst hp'
        have hj1 : ((i : Int) - 1).toNat = i - 1 := by omega
        have hce : Ce r (o + ((i : Int) - 1).toNat * 1) (.int .u8 ((dg nn).getD (i - 1) 0)) := by rw [hj1]; exact hat (i - 1) (by omega)
        have hce' : Ce r' (o' + ((i : Int) - 1).toNat * 1) (.int .u8 ((dg mm).getD (i - 1) 0)) := by rw [hj1]; exact hat' (i - 1) (by omega)
        have hbE := hb.ext hE3
        have hbE' := hb'.ext hE3
        refine W_skip ?_
        refine thn_normal ?_
        refine W_seq ?_
        refine W_block ?_
        refine W_seq ?_
        refine W_seq ?_
        refine W_drawE [false, false, false, false, false, false, false, false, false, false, false] hmix (by kernel_rfl) rfl ?_
        refine WH_p (PS_move_slice rfl) rfl ?_
        refine WH_p (PS_move_int rfl) rfl ?_
        refine WH_p (PS_sub_i64n rfl rfl (by omega) (by omega)) rfl ?_
        refine WH_p (PS_indexS Hvac.runUnderlying92 Hvac.sizeOf5 rfl rfl (by omega) (by omega)) rfl ?_
        refine WH_load (.int _ _) Hvac.isAgg5 rfl (Hb.h (by repeat (first | assumption | exact Hb.newY _ _ | refine Hb.alloc ?_ | refine Hb.drew ?_ | refine Hb.ext (by assumption) ?_ | exact Hb.setSameL (by first | omega | (simp only [size_alloc, size_setB, size_drew]; omega)) | exact Hb.setSame (by assumption) | refine Hb.set (by first | omega | (simp only [size_alloc, size_setB, size_drew]; omega)) ?_ ))) (Ce.h (by first | assumption | exact ⟨rfl⟩)) ?_
        refine WH_p (PS_move_slice rfl) rfl ?_
        refine WH_p (PS_move_int rfl) rfl ?_
        refine WH_p (PS_sub_i64n rfl rfl (by omega) (by omega)) rfl ?_
        refine WH_p (PS_indexS Hvac.runUnderlying92 Hvac.sizeOf5 rfl rfl (by omega) (by omega)) rfl ?_
        refine WH_load (.int _ _) Hvac.isAgg5 rfl (Hb.h (by repeat (first | assumption | exact Hb.newY _ _ | refine Hb.alloc ?_ | refine Hb.drew ?_ | refine Hb.ext (by assumption) ?_ | exact Hb.setSameL (by first | omega | (simp only [size_alloc, size_setB, size_drew]; omega)) | exact Hb.setSame (by assumption) | refine Hb.set (by first | omega | (simp only [size_alloc, size_setB, size_drew]; omega)) ?_ ))) (Ce.h (by first | assumption | exact ⟨rfl⟩)) ?_
        refine WH_p (PS_lss rfl rfl) rfl ?_
        refine WH_nil ?_
        refine thn_normal ?_
        refine W_if rfl (fun hb10 => ?_) (fun hb10 => ?_)
        · have hb10p := hb10.h; try simp only [al_ete, al_dfn, Bool.not_eq_true', Bool.not_eq_false', al_ne, Bool.not_not, al_nn] at hb10p
          have hlt : nn < mm := by
            have := dv_cmp (dg_by nn) (dg_by mm) (by rw [dg_len, dg_len]; exact hse) (k := i - 1) (by rw [dg_len]; omega) (fun q h1 h2 => heq q (by omega) (by rw [dg_len] at h2; exact h2)) hb10p
            rwa [dv_dg, dv_dg] at this
          refine W_seq ?_
          refine W_region rfl ?_
          refine WO_p (PS_assign_int rfl) ?_
          refine WO_nil ?_
          refine thn_normal ?_
          refine W_ret ?_
          refine thn_ret ?_
          refine inBlk_ret ?_
          refine thn_ret ?_
          refine thn_ret ?_
          refine inBlk_ret ?_
          refine thn_ret ?_
          refine bodyQ_ret1 Hvac.results76 rfl (.int _ _) rfl ?_
          first
          | (refine ⟨(by repeat (first | assumption | exact Ext.refl _ | refine Ext.alloc ?_ _ | refine Ext.drew ?_ | refine Ext.setB ?_ (by first | omega | (simp only [size_alloc, size_setB, size_drew]; omega)) _ | refine Ext.trans ?_ (by assumption))), ?_⟩
             unfold cmpI
             rw [if_pos hlt]; done)
          | (refine ⟨(by repeat (first | assumption | exact Ext.refl _ | refine Ext.alloc ?_ _ | refine Ext.drew ?_ | refine Ext.setB ?_ (by first | omega | (simp only [size_alloc, size_setB, size_drew]; omega)) _ | refine Ext.trans ?_ (by assumption))), ?_⟩
             unfold cmpI
             rw [if_neg (by omega), if_neg (by omega)]; done)
          | (have hi0 : i = 0 := by omega
             have he : nn = mm := by
               have := dv_gdext (a := dg nn) (b := dg mm) (by rw [dg_len, dg_len]; exact hse) (fun q h => heq q (by omega) (by rw [dg_len] at h; exact h))
               rwa [dv_dg, dv_dg] at this
             refine ⟨(by repeat (first | assumption | exact Ext.refl _ | refine Ext.alloc ?_ _ | refine Ext.drew ?_ | refine Ext.setB ?_ (by first | omega | (simp only [size_alloc, size_setB, size_drew]; omega)) _ | refine Ext.trans ?_ (by assumption))), ?_⟩
             unfold cmpI
             rw [if_neg (by omega), if_pos he]; done)
        · have hb10p := hb10.h; try simp only [al_ete, al_dfn, Bool.not_eq_true', Bool.not_eq_false', al_ne, Bool.not_not, al_nn] at hb10p
          refine W_skip ?_
          refine thn_normal ?_
          refine W_seq ?_
          refine W_drawE [false, false, false, false, false, false, false, false, false, false, false] hmix (by kernel_rfl) rfl ?_
          refine WH_p (PS_move_slice rfl) rfl ?_
          refine WH_p (PS_move_int rfl) rfl ?_
          refine WH_p (PS_sub_i64n rfl rfl (by omega) (by omega)) rfl ?_
          refine WH_p (PS_indexS Hvac.runUnderlying92 Hvac.sizeOf5 rfl rfl (by omega) (by omega)) rfl ?_
          refine WH_load (.int _ _) Hvac.isAgg5 rfl (Hb.h (by repeat (first | assumption | exact Hb.newY _ _ | refine Hb.alloc ?_ | refine Hb.drew ?_ | refine Hb.ext (by assumption) ?_ | exact Hb.setSameL (by first | omega | (simp only [size_alloc, size_setB, size_drew]; omega)) | exact Hb.setSame (by assumption) | refine Hb.set (by first | omega | (simp only [size_alloc, size_setB, size_drew]; omega)) ?_ ))) (Ce.h (by first | assumption | exact ⟨rfl⟩)) ?_
          refine WH_p (PS_move_slice rfl) rfl ?_
          refine WH_p (PS_move_int rfl) rfl ?_
          refine WH_p (PS_sub_i64n rfl rfl (by omega) (by omega)) rfl ?_
          refine WH_p (PS_indexS Hvac.runUnderlying92 Hvac.sizeOf5 rfl rfl (by omega) (by omega)) rfl ?_
          refine WH_load (.int _ _) Hvac.isAgg5 rfl (Hb.h (by repeat (first | assumption | exact Hb.newY _ _ | refine Hb.alloc ?_ | refine Hb.drew ?_ | refine Hb.ext (by assumption) ?_ | exact Hb.setSameL (by first | omega | (simp only [size_alloc, size_setB, size_drew]; omega)) | exact Hb.setSame (by assumption) | refine Hb.set (by first | omega | (simp only [size_alloc, size_setB, size_drew]; omega)) ?_ ))) (Ce.h (by first | assumption | exact ⟨rfl⟩)) ?_
          refine WH_p (PS_gtr rfl rfl) rfl ?_
          refine WH_nil ?_
          refine thn_normal ?_
          refine W_if rfl (fun hb12 => ?_) (fun hb12 => ?_)
          · have hb12p := hb12.h; try simp only [al_ete, al_dfn, Bool.not_eq_true', Bool.not_eq_false', al_ne, Bool.not_not, al_nn] at hb12p
            have hgt : mm < nn := by
              have := dv_cmp (dg_by mm) (dg_by nn) (by rw [dg_len, dg_len]; exact hse.symm) (k := i - 1) (by rw [dg_len]; omega) (fun q h1 h2 => (heq q (by omega) (by rw [dg_len] at h2; omega)).symm) hb12p
              rwa [dv_dg, dv_dg] at this
            refine W_seq ?_
            refine W_region rfl ?_
            refine WO_p (PS_assign_int rfl) ?_
            refine WO_nil ?_
            refine thn_normal ?_
            refine W_ret ?_
            refine inBlk_ret ?_
            refine thn_ret ?_
            refine thn_ret ?_
            refine inBlk_ret ?_
            refine thn_ret ?_
            refine bodyQ_ret1 Hvac.results76 rfl (.int _ _) rfl ?_
            first
            | (refine ⟨(by repeat (first | assumption | exact Ext.refl _ | refine Ext.alloc ?_ _ | refine Ext.drew ?_ | refine Ext.setB ?_ (by first | omega | (simp only [size_alloc, size_setB, size_drew]; omega)) _ | refine Ext.trans ?_ (by assumption))), ?_⟩
               unfold cmpI
               rw [if_pos hlt]; done)
            | (refine ⟨(by repeat (first | assumption | exact Ext.refl _ | refine Ext.alloc ?_ _ | refine Ext.drew ?_ | refine Ext.setB ?_ (by first | omega | (simp only [size_alloc, size_setB, size_drew]; omega)) _ | refine Ext.trans ?_ (by assumption))), ?_⟩
               unfold cmpI
               rw [if_neg (by omega), if_neg (by omega)]; done)
            | (have hi0 : i = 0 := by omega
               have he : nn = mm := by
                 have := dv_gdext (a := dg nn) (b := dg mm) (by rw [dg_len, dg_len]; exact hse) (fun q h => heq q (by omega) (by rw [dg_len] at h; exact h))
                 rwa [dv_dg, dv_dg] at this
               refine ⟨(by repeat (first | assumption | exact Ext.refl _ | refine Ext.alloc ?_ _ | refine Ext.drew ?_ | refine Ext.setB ?_ (by first | omega | (simp only [size_alloc, size_setB, size_drew]; omega)) _ | refine Ext.trans ?_ (by assumption))), ?_⟩
               unfold cmpI
               rw [if_neg (by omega), if_pos he]; done)
          · have hb12p := hb12.h; try simp only [al_ete, al_dfn, Bool.not_eq_true', Bool.not_eq_false', al_ne, Bool.not_not, al_nn] at hb12p
            refine W_skip ?_
            refine inBlk_normal ?_
            refine thn_normal ?_
            refine W_region rfl ?_
            refine WO_p (PS_move_int rfl) ?_
            refine WO_p (PS_sub_i64n rfl rfl (by omega) (by omega)) ?_
            refine WO_p (PS_assign_int rfl) ?_
            refine WO_nil ?_
            refine thn_normal ?_
            exact ⟨k3 - 1, by omega, i - 1, by omega, by omega, fun q h1 h2 => by
              rcases Nat.lt_or_ge q i with h3 | h3
              · rw [show q = i - 1 by omega]; omega
              · exact heq q h3 h2, ⟨rfl, rfl, congrArg (Value.int .i64) (by omega), trivial⟩, (by repeat (first | assumption | exact Ext.refl _ | refine Ext.alloc ?_ _ | refine Ext.drew ?_ | refine Ext.setB ?_ (by first | omega | (simp only [size_alloc, size_setB, size_drew]; omega)) _ | refine Ext.trans ?_ (by assumption)))⟩
      · have hb8p := hb8.h; try simp only [al_ete, al_dfn, Bool.not_eq_true', Bool.not_eq_false', al_ne, Bool.not_not, al_nn] at hb8p
        refine W_exit ?_
        refine thn_exit ?_
        refine thn_exit ?_
        refine inBlk_exit ?_
        refine thn_normal ?_
        refine W_seq ?_
        refine W_region rfl ?_
        refine WO_p (PS_assign_int rfl) ?_
        refine WO_nil ?_
        refine thn_normal ?_
        refine W_ret ?_
        refine bodyQ_ret1 Hvac.results76 rfl (.int _ _) rfl ?_
        first
        | (refine ⟨(by repeat (first | assumption | exact Ext.refl _ | refine Ext.alloc ?_ _ | refine Ext.drew ?_ | refine Ext.setB ?_ (by first | omega | (simp only [size_alloc, size_setB, size_drew]; omega)) _ | refine Ext.trans ?_ (by assumption))), ?_⟩
           unfold cmpI
           rw [if_pos hlt]; done)
        | (refine ⟨(by repeat (first | assumption | exact Ext.refl _ | refine Ext.alloc ?_ _ | refine Ext.drew ?_ | refine Ext.setB ?_ (by first | omega | (simp only [size_alloc, size_setB, size_drew]; omega)) _ | refine Ext.trans ?_ (by assumption))), ?_⟩
           unfold cmpI
           rw [if_neg (by omega), if_neg (by omega)]; done)
        | (have hi0 : i = 0 := by omega
           have he : nn = mm := by
             have := dv_gdext (a := dg nn) (b := dg mm) (by rw [dg_len, dg_len]; exact hse) (fun q h => heq q (by omega) (by rw [dg_len] at h; exact h))
             rwa [dv_dg, dv_dg] at this
           refine ⟨(by repeat (first | assumption | exact Ext.refl _ | refine Ext.alloc ?_ _ | refine Ext.drew ?_ | refine Ext.setB ?_ (by first | omega | (simp only [size_alloc, size_setB, size_drew]; omega)) _ | refine Ext.trans ?_ (by assumption))), ?_⟩
           unfold cmpI
           rw [if_neg (by omega), if_pos he]; done)

set_option maxRecDepth 10000 in
set_option maxHeartbeats 4000000 in
theorem pow2X_spec [Om] (k : Nat) (w : World) (hO : OmB w) (hk : k ≤ 65535) : Ret Hvac.prog 355 #[.int .u16 k] w fun u w' => Ext w w' ∧ ∃ s' : SV, u = .slice s'.1 s'.2.1 s'.2.2 ∧ NN w' s' (2 ^ k) := by
  obtain ⟨n1, hn1⟩ : ∃ n1 : Nat, n1 = k / 8 + 1 := ⟨_, rfl⟩
  have hk8 : (k : Int) / 8 + 1 = (n1 : Int) := by omega
  have hk9 : ((k : Int) / 8).toNat = k / 8 := by omega
  refine Ret_of_W Hvac.func355 rfl rfl ?_
  refine W_seq ?_
  refine W_region rfl ?_
  refine WO_p (PS_assign_slice rfl) ?_
  refine WO_nil ?_
  refine thn_normal ?_
  refine W_seq ?_
  refine W_region rfl ?_
  refine WO_p (PS_move_int rfl) ?_
  refine WO_p (PS_quo_u16 rfl rfl (by omega) (by omega) (by omega)) ?_
  refine WO_p (PS_conv_i64n Hvac.runUnderlying42 Hvac.runUnderlying3 rfl (by omega) (by omega)) ?_
  refine WO_p (PS_add_i64n rfl rfl (by omega) (by omega)) ?_
  rw [hk8]
  refine WO_make (z := .int .u8 0) Hvac.underlying92 info5 rfl rfl rfl (by omega) (by omega) (by show (1:Int) * _ ≤ _; omega) (by omega) ?_
  rw [show ((n1:Int)).toNat = n1 from Int.toNat_natCast _, show madeCells (Value.int IntKind.u8 0).cells (n1 * Hvac.t5.size) = ic .u8 (List.replicate n1 0) from by rw [show Hvac.t5.size = 1 from rfl, Nat.mul_one]; exact made_ic .u8 _]
  refine WO_p (PS_assign_slice rfl) ?_
  refine WO_nil ?_
  refine thn_normal ?_
  refine W_seq ?_
  refine W_region rfl ?_
  refine WO_p (PS_move_slice rfl) ?_
  refine WO_p (PS_move_int rfl) ?_
  refine WO_p (PS_quo_u16 rfl rfl (by omega) (by omega) (by omega)) ?_
  refine WO_p (PS_move_int rfl) ?_
  refine WO_p (PS_rem_u16 rfl rfl (by omega) (by omega)) ?_
  refine WO_p (PS_shl_u8 (k % 8) rfl rfl (by omega) (by omega)) ?_
  refine WO_p (PS_indexS Hvac.runUnderlying92 Hvac.sizeOf5 rfl rfl (by omega) (by omega)) ?_
  refine WO_store1 Hvac.sizeOf5 rfl (v := .int _ _) rfl (Hb.newY _ _).h rfl (by rw [size_ic, List.length_replicate]; omega) rfl ?_
  rw [hk9, ic_set]
  refine WO_nil ?_
  refine thn_normal ?_
  refine W_seq ?_
  refine W_region rfl ?_
  refine WO_p (PS_move_slice rfl) ?_
  refine WO_p (PS_assign_slice rfl) ?_
  refine WO_nil ?_
  refine thn_normal ?_
  refine W_ret ?_
  refine bodyQ_ret1 Hvac.results355 rfl (.slice _ _ _) rfl ?_
  subst hn1
  have h1 := pow8_lt k
  have he : (List.replicate (k / 8 + 1) (0 : Int)).set (k / 8) ((1 * 2 ^ (k % 8)) % 256) = dg (2 ^ k) := by
    rw [pow2_dg]
    have h3 : ((1 : Int) * 2 ^ (k % 8)) % 256 = ((2 ^ (k % 8) : Nat) : Int) := by
      have h4 : (((2 ^ (k % 8) : Nat) : Int)) = 2 ^ (k % 8) := by rw [Int.natCast_pow]; rfl
      rw [Int.one_mul, ← h4]; exact Int.emod_eq_of_lt (Int.natCast_nonneg _) (by omega)
    rw [h3, List.replicate_succ', List.set_append_right _ _ (by simp)]
    simp
  rw [he]
  exact ⟨(by repeat (first | assumption | exact Ext.refl _ | refine Ext.alloc ?_ _ | refine Ext.drew ?_ | refine Ext.setB ?_ (by first | omega | (simp only [size_alloc, size_setB, size_drew]; omega)) _ | refine Ext.trans ?_ (by assumption))), (some ⟨_, 0, none⟩, k / 8 + 1, k / 8 + 1), rfl, PB.newY (Hb.setSame (Hb.newY _ _)) (hO.fresh (Nat.le_refl _)) (dg_by _) (pow2_sz k)⟩

set_option maxRecDepth 10000 in
set_option maxHeartbeats 4000000 in
theorem bitX_spec (s : SV) (L : List Int) (i : Nat) (w : World) (hs : AB w s L) (hm : s.2.1 ≤ 100000000) (hi : i ≤ 65535) : Ret Hvac.prog 294 #[.slice s.1 s.2.1 s.2.2, .int .u16 i] w fun u w' => Ext w w' ∧ u = .bool (Nat.testBit (dv L) i) := by
  obtain ⟨p, n, cp⟩ := s
  have hlc := hs.cap
  have hln := hs.len
  have hby := hs.by_
  dsimp only at hlc hln hby hm ⊢
  have hi8 : ((i : Int) / 8).toNat = i / 8 := by omega
  refine Ret_of_W Hvac.func294 rfl rfl ?_
  refine W_seq ?_
  refine W_region rfl ?_
  refine WO_p (PS_assign_bool rfl) ?_
  refine WO_nil ?_
  refine thn_normal ?_
  refine W_seq ?_
  refine W_region rfl ?_
  refine WO_p (PS_move_int rfl) ?_
  refine WO_p (PS_quo_u16 rfl rfl (by omega) (by omega) (by omega)) ?_
  refine WO_p (PS_conv_i64n Hvac.runUnderlying42 Hvac.runUnderlying3 rfl (by omega) (by omega)) ?_
  refine WO_p (PS_assign_int rfl) ?_
  refine WO_nil ?_
  refine thn_normal ?_
  refine W_seq ?_
  refine W_region rfl ?_
  refine WO_p (PS_move_int rfl) ?_
  refine WO_p (PS_move_slice rfl) ?_
  refine WO_p (PS_lenS Hvac.runUnderlying92 rfl) ?_
  refine WO_p (PS_lss rfl rfl) ?_
  refine WO_p (PS_move_bool rfl) ?_
  refine WO_if (t := 13) rfl (fun hb2 => ?_) (fun hb2 => ?_)
  · have hb2p := hb2.h; try simp only [al_ete, al_dfn, Bool.not_eq_true', Bool.not_eq_false', al_ne, Bool.not_not, al_nn] at hb2p
    obtain ⟨b, o, r, T, fz, hp, hb, hrs, hat⟩ := hs.at_ (by omega)
    subst hp
    have hce : Ce r (o + ((i : Int) / 8).toNat * 1) (.int .u8 (L.getD (i / 8) 0)) := by rw [hi8]; exact hat _ (by omega)
    have hgb := gd_by hby (i / 8)
    refine WO_guardT rfl rfl hb2.h ?_
    refine WO_p (PS_move_slice rfl) ?_
    refine WO_guardT rfl rfl hb2.h ?_
    refine WO_p (PS_move_int rfl) ?_
    refine WO_guardT rfl rfl hb2.h ?_
    refine WO_p (PS_indexS Hvac.runUnderlying92 Hvac.sizeOf5 rfl rfl (by omega) (by omega)) ?_
    refine WO_guardT rfl rfl hb2.h ?_
    refine WO_load (.int _ _) Hvac.isAgg5 rfl (Hb.h (by repeat (first | assumption | exact Hb.newY _ _ | refine Hb.alloc ?_ | refine Hb.drew ?_ | refine Hb.ext (by assumption) ?_ | exact Hb.setSameL (by first | omega | (simp only [size_alloc, size_setB, size_drew]; omega)) | exact Hb.setSame (by assumption) | refine Hb.set (by first | omega | (simp only [size_alloc, size_setB, size_drew]; omega)) ?_ ))) (Ce.h (by first | assumption | exact ⟨rfl⟩)) ?_
    refine WO_guardT rfl rfl hb2.h ?_
    refine WO_p (PS_move_int rfl) ?_
    refine WO_guardT rfl rfl hb2.h ?_
    refine WO_p (PS_rem_u16 rfl rfl (by omega) (by omega)) ?_
    refine WO_guardT rfl rfl hb2.h ?_
    refine WO_p (PS_shr_u8 (i % 8) rfl rfl (by omega) (by omega)) ?_
    refine WO_guardT rfl rfl hb2.h ?_
    refine WO_p (PS_and_u8 rfl rfl) ?_
    refine WO_guardT rfl rfl hb2.h ?_
    refine WO_p (PS_eql rfl rfl) ?_
    refine WO_p (PS_pickT rfl hb2.h rfl) ?_
    refine WO_p (PS_assign_bool rfl) ?_
    refine WO_nil ?_
    refine thn_normal ?_
    refine W_ret ?_
    refine bodyQ_ret1 Hvac.results294 rfl (.bool _) rfl ?_
    have hbt := bit_at hby i
    first
    | (have h5 : 0 ≤ L.getD (i / 8) 0 / 2 ^ (i % 8) := Int.ediv_nonneg hgb.1 (Int.le_of_lt (Int.pow_pos (by decide)))
       have h6 : L.getD (i / 8) 0 / 2 ^ (i % 8) ≤ 255 := Int.le_trans (Int.ediv_le_self _ hgb.1) hgb.2
       have e := bAnd8_one h5 h6
       refine ⟨(by repeat (first | assumption | exact Ext.refl _ | refine Ext.alloc ?_ _ | refine Ext.drew ?_ | refine Ext.setB ?_ (by first | omega | (simp only [size_alloc, size_setB, size_drew]; omega)) _ | refine Ext.trans ?_ (by assumption))), ?_⟩
       rw [e, hbt, tb_dec]
       exact congrArg Value.bool (al_dd.2 (by omega)))
    | (rw [hge, Int.zero_ediv] at hbt
       refine ⟨(by repeat (first | assumption | exact Ext.refl _ | refine Ext.alloc ?_ _ | refine Ext.drew ?_ | refine Ext.setB ?_ (by first | omega | (simp only [size_alloc, size_setB, size_drew]; omega)) _ | refine Ext.trans ?_ (by assumption))), ?_⟩
       rw [tb_dec, al_ef (by omega)]
       done)
  · have hb2p := hb2.h; try simp only [al_ete, al_dfn, Bool.not_eq_true', Bool.not_eq_false', al_ne, Bool.not_not, al_nn] at hb2p
    have hge : L.getD (i / 8) 0 = 0 := gd_ge (by omega)
    refine WO_guardF rfl rfl hb2.h ?_
    refine WO_guardF rfl rfl hb2.h ?_
    refine WO_guardF rfl rfl hb2.h ?_
    refine WO_guardF rfl rfl hb2.h ?_
    refine WO_guardF rfl rfl hb2.h ?_
    refine WO_guardF rfl rfl hb2.h ?_
    refine WO_guardF rfl rfl hb2.h ?_
    refine WO_guardF rfl rfl hb2.h ?_
    refine WO_guardF rfl rfl hb2.h ?_
    refine WO_p (PS_pickF rfl hb2.h rfl) ?_
    refine WO_p (PS_assign_bool rfl) ?_
    refine WO_nil ?_
    refine thn_normal ?_
    refine W_ret ?_
    refine bodyQ_ret1 Hvac.results294 rfl (.bool _) rfl ?_
    have hbt := bit_at hby i
    first
    | (have h5 : 0 ≤ L.getD (i / 8) 0 / 2 ^ (i % 8) := Int.ediv_nonneg hgb.1 (Int.le_of_lt (Int.pow_pos (by decide)))
       have h6 : L.getD (i / 8) 0 / 2 ^ (i % 8) ≤ 255 := Int.le_trans (Int.ediv_le_self _ hgb.1) hgb.2
       have e := bAnd8_one h5 h6
       refine ⟨(by repeat (first | assumption | exact Ext.refl _ | refine Ext.alloc ?_ _ | refine Ext.drew ?_ | refine Ext.setB ?_ (by first | omega | (simp only [size_alloc, size_setB, size_drew]; omega)) _ | refine Ext.trans ?_ (by assumption))), ?_⟩
       rw [e, hbt, tb_dec]
       exact congrArg Value.bool (al_dd.2 (by omega)))
    | (rw [hge, Int.zero_ediv] at hbt
       refine ⟨(by repeat (first | assumption | exact Ext.refl _ | refine Ext.alloc ?_ _ | refine Ext.drew ?_ | refine Ext.setB ?_ (by first | omega | (simp only [size_alloc, size_setB, size_drew]; omega)) _ | refine Ext.trans ?_ (by assumption))), ?_⟩
       rw [tb_dec, al_ef (by omega)]
       done)

end Go.Proofs.YgvacwGreat
