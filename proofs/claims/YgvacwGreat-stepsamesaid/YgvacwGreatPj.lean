import Derived.Test.YgvacwGreatPi
namespace Go.Proofs.YgvacwGreat
set_option linter.unusedSimpArgs false
set_option linter.unusedVariables false
theorem div_sz (x : Nat) : x / 2 ^ (8 * sz x) = 0 := Nat.div_eq_of_lt (by rw [Nat.pow_mul]; exact lt_sz x)
theorem bit_and {L : List Int} (h : ∀ x ∈ L, 0 ≤ x ∧ x ≤ 255) (i : Nat) : bAnd8 (L.getD (i / 8) 0 / 2 ^ (i % 8)) 1 = ((dv L / 2 ^ i % 2 : Nat) : Int) := by
  have hgb := gd_by h (i / 8)
  have h5 : 0 ≤ L.getD (i / 8) 0 / 2 ^ (i % 8) := Int.ediv_nonneg hgb.1 (Int.le_of_lt (Int.pow_pos (by decide)))
  have h6 : L.getD (i / 8) 0 / 2 ^ (i % 8) ≤ 255 := Int.le_trans (Int.ediv_le_self _ hgb.1) hgb.2
  rw [bAnd8_one h5 h6, bit_at h]
/-- a bit that is not set is set -/
theorem or_set {Q : List Int} (h : ∀ x ∈ Q, 0 ≤ x ∧ x ≤ 255) {i : Nat} (hi : i / 8 < Q.length) (h0 : dv Q / 2 ^ i % 2 = 0) : dv (Q.set (i / 8) (bOr8 (Q.getD (i / 8) 0) ((1 * 2 ^ (i % 8)) % 256))) = dv Q + 2 ^ i := by
  have hgb := gd_by h (i / 8)
  have hb := bit_at h i
  rw [h0] at hb
  have h1 := pow8_lt i
  have e1 : ((1 : Int) * 2 ^ (i % 8)) % 256 = ((2 ^ (i % 8) : Nat) : Int) := by
    have h4 : (((2 ^ (i % 8) : Nat) : Int)) = 2 ^ (i % 8) := by rw [Int.natCast_pow]; rfl
    rw [Int.one_mul, ← h4]; exact Int.emod_eq_of_lt (Int.natCast_nonneg _) (by omega)
  obtain ⟨q, hq⟩ : ∃ q : Nat, Q.getD (i / 8) 0 = (q : Int) := ⟨(Q.getD (i / 8) 0).toNat, by omega⟩
  have hq0 : q / 2 ^ (i % 8) % 2 = 0 := by
    rw [hq] at hb
    have : (((q / 2 ^ (i % 8) % 2 : Nat)) : Int) = 0 := by
      rw [Int.natCast_emod, Int.natCast_ediv, Int.natCast_pow]; exact hb
    omega
  have e2 : bOr8 (Q.getD (i / 8) 0) ((1 * 2 ^ (i % 8)) % 256) = ((q + 2 ^ (i % 8) : Nat) : Int) := by
    rw [e1, hq, bOr8_nat (by omega) (by omega) (Int.natCast_nonneg _) (by omega), Int.toNat_natCast, Int.toNat_natCast, or_bit (Nat.mod_lt _ (by decide)) (by omega) hq0]
  have := dv_set Q (i / 8) (bOr8 (Q.getD (i / 8) 0) ((1 * 2 ^ (i % 8)) % 256)) hi
  rw [e2, hq, Int.toNat_natCast, Int.toNat_natCast, Nat.mul_add] at this
  rw [e2]
  have p1 : (256 : Nat) ^ (i / 8) * 2 ^ (i % 8) = 2 ^ i := by
    rw [show (256 : Nat) ^ (i / 8) = 2 ^ (8 * (i / 8)) by rw [Nat.pow_mul], ← Nat.pow_add]; congr 1; omega
  omega

set_option maxRecDepth 10000 in
set_option maxHeartbeats 4000000 in
theorem divModX_spec [Om] (s t : SV) (A B : List Int) (w : World) (hO : OmB w) (hs : AB w s A) (ht : AB w t B) (hm : s.2.1 ≤ 10000000) (hm2 : t.2.1 ≤ 10000000) : Ret Hvac.prog 225 #[.slice s.1 s.2.1 s.2.2, .slice t.1 t.2.1 t.2.2] w fun u w' => Ext w w' ∧ ∃ s1 s2 : SV, u = .tuple #[.slice s1.1 s1.2.1 s1.2.2, .slice s2.1 s2.2.1 s2.2.2, .bool (decide (dv B ≠ 0))] ∧ NN w' s1 (dv A / dv B) ∧ NN w' s2 (if dv B = 0 then 0 else dv A % dv B) := by
  obtain ⟨p, n, cp⟩ := s
  obtain ⟨p', n', cp'⟩ := t
  have htr := hs.trim
  have htr2 := ht.trim
  dsimp only at htr htr2 hm hm2 ⊢
  obtain ⟨htA, htl⟩ := htr
  obtain ⟨htB, htl2⟩ := htr2
  have hb2 : 0 < sz (dv B) → ∀ b o, p' = some ⟨b, o, none⟩ → b < w.heap.size := by
    intro h0 b o e
    obtain ⟨b2, o2, r, T, fz, hp, hb, _⟩ := htB.row h0
    dsimp only at hp
    rw [hp] at e
    injection e with e
    injection e with e1 e2
    rw [← e1]; exact hb.lt
  generalize hnn : dv A = nn at *
  generalize hnn2 : dv B = mm at *
  refine Ret_of_W Hvac.func225 rfl rfl ?_
  refine W_seq ?_
  refine W_region rfl ?_
  refine WO_p (PS_assign_slice rfl) ?_
  refine WO_p (PS_assign_slice rfl) ?_
  refine WO_p (PS_assign_bool rfl) ?_
  refine WO_nil ?_
  refine thn_normal ?_
  refine W_seq ?_
  refine W_region rfl ?_
  refine WO_p (PS_move_slice rfl) ?_
  refine WO_call Hvac.call86 (by rfl) (Ret.mono (trimX_spec (p, n, cp) A _ (AB.ext hs (by repeat (first | assumption | exact Ext.refl _ | refine Ext.alloc ?_ _ | refine Ext.drew ?_ | refine Ext.setB ?_ (by first | omega | (simp only [size_alloc, size_setB, size_drew]; omega)) _ | exact Ext.trans (by assumption) (by assumption) | refine Ext.trans ?_ (by assumption)))) (by dsimp only; omega)) ?_)
  rintro _ w1 ⟨hE1, hu1⟩
  rw [hnn] at hu1
  subst hu1
  have hz1 := hE1.1
  refine WO_p (PS_assign_slice rfl) ?_
  refine WO_nil ?_
  refine thn_normal ?_
  refine W_seq ?_
  refine W_region rfl ?_
  refine WO_p (PS_move_slice rfl) ?_
  refine WO_call Hvac.call86 (by rfl) (Ret.mono (trimX_spec (p', n', cp') B _ (AB.ext ht (by repeat (first | assumption | exact Ext.refl _ | refine Ext.alloc ?_ _ | refine Ext.drew ?_ | refine Ext.setB ?_ (by first | omega | (simp only [size_alloc, size_setB, size_drew]; omega)) _ | exact Ext.trans (by assumption) (by assumption) | refine Ext.trans ?_ (by assumption)))) (by dsimp only; omega)) ?_)
  rintro _ w2 ⟨hE2, hu2⟩
  rw [hnn2] at hu2
  subst hu2
  have hz2 := hE2.1
  refine WO_p (PS_assign_slice rfl) ?_
  refine WO_nil ?_
  refine thn_normal ?_
  refine W_seq ?_
  refine W_seq ?_
  refine W_region rfl ?_
  refine WO_p (PS_move_slice rfl) ?_
  refine WO_p (PS_lenS Hvac.runUnderlying92 rfl) ?_
  refine WO_p (PS_eql rfl rfl) ?_
  refine WO_nil ?_
  refine thn_normal ?_
  refine W_if rfl (fun hb4 => ?_) (fun hb4 => ?_)
  · have hb4p := hb4.h; try simp only [al_ete, al_dfn, Bool.not_eq_true', Bool.not_eq_false', al_ne, Bool.not_not, al_nn] at hb4p
    have hm0 : mm = 0 := sz_eq_zero (by omega)
    refine W_seq ?_
    refine W_region rfl ?_
    refine WO_p (PS_assign_slice rfl) ?_
    refine WO_p (PS_assign_slice rfl) ?_
    refine WO_p (PS_assign_bool rfl) ?_
    refine WO_nil ?_
    refine thn_normal ?_
    refine W_ret ?_
    refine thn_ret ?_
    refine bodyQ_ret3 Hvac.results225 rfl rfl rfl (.slice _ _ _) (.slice _ _ _) (.bool _) rfl rfl rfl ?_
    first
    | (refine ⟨(by repeat (first | assumption | exact Ext.refl _ | refine Ext.alloc ?_ _ | refine Ext.drew ?_ | refine Ext.setB ?_ (by first | omega | (simp only [size_alloc, size_setB, size_drew]; omega)) _ | refine Ext.trans ?_ (by assumption))), (none, 0, 0), (none, 0, 0), ?_, ?_, ?_⟩
       · rw [al_ef (by simp [hm0])] <;> rfl
       · rw [hm0, Nat.div_zero]; exact NN.nil _
       · rw [if_pos hm0]; exact NN.nil _)
    | (have hi0 : i = 0 := by omega
       rw [hi0, Nat.pow_zero, Nat.div_one, Nat.mul_one] at hdQ
       rw [hi0, Nat.pow_zero, Nat.div_one] at hdR
       rw [hdQ] at hs9
       rw [hdR] at hs10
       refine ⟨(by repeat (first | assumption | exact Ext.refl _ | refine Ext.alloc ?_ _ | refine Ext.drew ?_ | refine Ext.setB ?_ (by first | omega | (simp only [size_alloc, size_setB, size_drew]; omega)) _ | refine Ext.trans ?_ (by assumption))), s9, s10, ?_, PB.ext hs9 hE10, ?_⟩
       · rw [al_et hy0] <;> rfl
       · rw [if_neg hy0]; exact hs10)
  · have hb4p := hb4.h; try simp only [al_ete, al_dfn, Bool.not_eq_true', Bool.not_eq_false', al_ne, Bool.not_not, al_nn] at hb4p
    have hb1p := fun h : sz mm = 0 => hb4p (by omega)
    refine W_skip ?_
    refine thn_normal ?_
    refine W_seq ?_
    have hE02 : Ext w w2 := hE1.trans hE2
    have hy0 : mm ≠ 0 := by
      intro h0; rw [h0, sz_zero] at hb1p; exact hb1p rfl
    obtain ⟨n1, hn1⟩ : ∃ n1 : Nat, n1 = sz mm + 1 := ⟨_, rfl⟩
    have hn2 : (sz mm : Int) + 1 = (n1 : Int) := by omega
    refine W_region rfl ?_
    refine WO_p (PS_move_slice rfl) ?_
    refine WO_p (PS_lenS Hvac.runUnderlying92 rfl) ?_
    refine WO_make (z := .int .u8 0) Hvac.underlying92 info5 rfl rfl rfl (by omega) (by omega) (by show (1:Int) * _ ≤ _; omega) (by omega) ?_
    rw [show (((sz nn):Int)).toNat = (sz nn) from Int.toNat_natCast _, show madeCells (Value.int IntKind.u8 0).cells ((sz nn) * Hvac.t5.size) = ic .u8 (List.replicate (sz nn) 0) from by rw [show Hvac.t5.size = 1 from rfl, Nat.mul_one]; exact made_ic .u8 _]
    apply WO_gen4; intro w7 hw7
    have hbk7 : Hb w7 w2.heap.size (.cells (ic .u8 (List.replicate (sz nn) 0)) 5 (0, 0)) := by rw [hw7]; exact Hb.newY _ _
    have hEk7 : Ext w w7 := by rw [hw7]; exact Ext.alloc hE02 _
    have hEP7 : Ext w2 w7 := by rw [hw7]; exact Ext.alloc (Ext.refl _) _
    have hfr7 := hO.fresh hE02.1
    have hzp7 := hE02.1
    have hz7 : w7.heap.size = w2.heap.size + 1 := by rw [hw7, size_alloc]
    obtain ⟨b7, hbe7⟩ : ∃ b4, b4 = w2.heap.size := ⟨_, rfl⟩
    rw [← hbe7] at hbk7 hfr7 ⊢
    clear hw7
    refine WO_p (PS_assign_slice rfl) ?_
    refine WO_nil ?_
    refine thn_normal ?_
    refine W_seq ?_
    refine W_region rfl ?_
    refine WO_p (PS_move_slice rfl) ?_
    refine WO_p (PS_lenS Hvac.runUnderlying92 rfl) ?_
    refine WO_p (PS_add_i64n rfl rfl (by omega) (by omega)) ?_
    rw [hn2]
    refine WO_make (z := .int .u8 0) Hvac.underlying92 info5 rfl rfl rfl (by omega) (by omega) (by show (1:Int) * _ ≤ _; omega) (by omega) ?_
    rw [show ((n1:Int)).toNat = n1 from Int.toNat_natCast _, show madeCells (Value.int IntKind.u8 0).cells (n1 * Hvac.t5.size) = ic .u8 (List.replicate n1 0) from by rw [show Hvac.t5.size = 1 from rfl, Nat.mul_one]; exact made_ic .u8 _]
    apply WO_gen4; intro w8 hw8
    have hbk8 : Hb w8 w7.heap.size (.cells (ic .u8 (List.replicate n1 0)) 5 (0, 0)) := by rw [hw8]; exact Hb.newY _ _
    have hEk8 : Ext w w8 := by rw [hw8]; exact Ext.alloc hEk7 _
    have hEP8 : Ext w7 w8 := by rw [hw8]; exact Ext.alloc (Ext.refl _) _
    have hfr8 := hO.fresh hEk7.1
    have hzp8 := hEk7.1
    have hz8 : w8.heap.size = w7.heap.size + 1 := by rw [hw8, size_alloc]
    obtain ⟨b8, hbe8⟩ : ∃ b4, b4 = w7.heap.size := ⟨_, rfl⟩
    rw [← hbe8] at hbk8 hfr8 ⊢
    clear hw8
    refine WO_p (PS_assign_slice rfl) ?_
    refine WO_nil ?_
    refine thn_normal ?_
    refine W_seq ?_
    refine W_seq ?_
    refine W_region rfl ?_
    refine WO_p (PS_move_slice rfl) ?_
    refine WO_p (PS_lenS Hvac.runUnderlying92 rfl) ?_
    refine WO_p (PS_mul_i64n rfl rfl (by omega) (by omega)) ?_
    refine WO_p (PS_assign_int rfl) ?_
    refine WO_nil ?_
    refine thn_normal ?_
    refine W_block ?_
    refine W_loopN (fun k ρ w' => ∃ (i : Nat) (Q : List Int) (R : List Int), i = k ∧ i ≤ 8 * sz nn ∧ By Q (sz nn) ∧ By R n1 ∧ dv Q = nn / 2 ^ i / mm * 2 ^ i ∧ dv R = nn / 2 ^ i % mm ∧ Fr [(0, .slice p (sz nn) (sz nn)), (1, .slice p' (sz mm) (sz mm)), (7, .slice (some ⟨b7, 0, none⟩) (sz nn) (sz nn)), (8, .slice (some ⟨b8, 0, none⟩) n1 n1), (9, .int .i64 i)] ρ ∧ Ext w w' ∧ Hb w' b7 (.cells (ic .u8 Q) 5 (0, 0)) ∧ Hb w' b8 (.cells (ic .u8 R) 5 (0, 0))) (8 * sz nn) ?_ ?_
    · exact ⟨8 * sz nn, List.replicate (sz nn) 0, List.replicate n1 0, rfl, Nat.le_refl _, rep_by _, rep_by _, by rw [dv_rep0, div_sz]; simp, by rw [dv_rep0, div_sz]; simp, ⟨rfl, rfl, rfl, rfl, congrArg (Value.int .i64) (by omega), trivial⟩, hEk8, hbk7.ext hEP8, hbk8⟩
    intro k4 ρ4 w4 hI4
    obtain ⟨i, Q, R, hik, hi8, hLQ, hLR, hdQ, hdR, hFr4, hE4, hbQ4, hbR4⟩ := hI4
    refine W_env _ hFr4 ?_
    have hz4 := hE4.1
    refine W_seq ?_
    refine W_seq ?_
    refine W_region rfl ?_
    refine WO_p (PS_move_int rfl) ?_
    refine WO_p (PS_gtr rfl rfl) ?_
    refine WO_nil ?_
    refine thn_normal ?_
    refine W_if rfl (fun hb6 => ?_) (fun hb6 => ?_)
    · have hb6p := hb6.h; try simp only [al_ete, al_dfn, Bool.not_eq_true', Bool.not_eq_false', al_ne, Bool.not_not, al_nn] at hb6p
      obtain ⟨b, o, r, T, fz, hp, hb, hrs, hat⟩ := (htA.ext hE4).at_ (by omega)
      subst hp
      have hat8 : (((i : Int) - 1) / 8).toNat = (i - 1) / 8 := by omega
      have hce : Ce r (o + (((i : Int) - 1) / 8).toNat * 1) (.int .u8 ((dg nn).getD ((i - 1) / 8) 0)) := by rw [hat8]; exact hat _ (by omega)
      have hbit := bit_and (dg_by nn) (i - 1)
      rw [dv_dg] at hbit
      refine W_skip ?_
      refine thn_normal ?_
      refine W_seq ?_
      refine W_block ?_
      refine W_seq ?_
      refine W_region rfl ?_
      refine WO_p (PS_move_int rfl) ?_
      refine WO_p (PS_sub_i64n rfl rfl (by omega) (by omega)) ?_
      refine WO_p (PS_quo_i64 rfl rfl (by omega) (by omega) (by omega)) ?_
      refine WO_p (PS_assign_int rfl) ?_
      refine WO_nil ?_
      refine thn_normal ?_
      refine W_seq ?_
      refine W_region rfl ?_
      refine WO_p (PS_move_int rfl) ?_
      refine WO_p (PS_sub_i64n rfl rfl (by omega) (by omega)) ?_
      refine WO_p (PS_rem_i64 rfl rfl (by omega) (by omega)) ?_
      refine WO_p (PS_conv_u64n Hvac.runUnderlying3 Hvac.runUnderlying177 rfl (by omega) (by omega)) ?_
      refine WO_p (PS_assign_int rfl) ?_
      refine WO_nil ?_
      refine thn_normal ?_
      refine W_seq ?_
      refine W_region rfl ?_
      refine WO_p (PS_move_slice rfl) ?_
      refine WO_p (PS_move_int rfl) ?_
      refine WO_p (PS_indexS Hvac.runUnderlying92 Hvac.sizeOf5 rfl rfl (by omega) (by omega)) ?_
      refine WO_load (.int _ _) Hvac.isAgg5 rfl (Hb.h (by repeat (first | assumption | exact Hb.newY _ _ | refine Hb.alloc ?_ | refine Hb.drew ?_ | refine Hb.ext (by assumption) ?_ | exact Hb.setSameL (by first | omega | (simp only [size_alloc, size_setB, size_drew]; omega)) | exact Hb.setSame (by assumption) | refine Hb.set (by first | omega | (simp only [size_alloc, size_setB, size_drew]; omega)) ?_ ))) (Ce.h (by first | assumption | exact ⟨rfl⟩)) ?_
      refine WO_p (PS_move_int rfl) ?_
      refine WO_p (PS_shr_u8 ((i - 1) % 8) rfl rfl (by omega) (by omega)) ?_
      refine WO_p (PS_and_u8 rfl rfl) ?_
      rw [hbit]
      refine WO_p (PS_assign_int rfl) ?_
      refine WO_nil ?_
      refine thn_normal ?_
      refine W_seq ?_
      refine W_seq ?_
      refine W_region rfl ?_
      refine WO_p (PS_move_slice rfl) ?_
      refine WO_p (PS_lenS Hvac.runUnderlying92 rfl) ?_
      refine WO_p (PS_move_int rfl) ?_
      refine WO_nil ?_
      refine thn_normal ?_
      refine W_block ?_
      refine W_loopN (fun k ρ w' => ∃ (j : Nat) (c : Nat) (R5 : List Int), j + k = n1 ∧ By R5 n1 ∧ c ≤ 1 ∧ (∀ q, j ≤ q → R5.getD q 0 = R.getD q 0) ∧ dv (R5.take j) + 256 ^ j * c = 2 * dv (R.take j) + nn / 2 ^ (i - 1) % 2 ∧ Fr [(0, .slice (some ⟨b, o, none⟩) (sz nn) (sz nn)), (1, .slice p' (sz mm) (sz mm)), (7, .slice (some ⟨b7, 0, none⟩) (sz nn) (sz nn)), (8, .slice (some ⟨b8, 0, none⟩) n1 n1), (9, .int .i64 i), (10, .int .i64 (((i : Int) - 1) / 8)), (11, .int .u64 (((i : Int) - 1) % 8)), (12, .int .u8 (c : Int)), (50, .slice (some ⟨b8, 0, none⟩) n1 n1), (51, .int .i64 n1), (52, .int .i64 j)] ρ ∧ Ext w w' ∧ Hb w' b7 (.cells (ic .u8 Q) 5 (0, 0)) ∧ Hb w' b8 (.cells (ic .u8 R5) 5 (0, 0))) n1 ?_ ?_
      · exact ⟨0, nn / 2 ^ (i - 1) % 2, R, by omega, hLR, by omega, fun q _ => rfl, by simp [dv], ⟨rfl, rfl, rfl, rfl, rfl, rfl, rfl, rfl, rfl, rfl, rfl, trivial⟩, (by repeat (first | assumption | exact Ext.refl _ | refine Ext.alloc ?_ _ | refine Ext.drew ?_ | refine Ext.setB ?_ (by first | omega | (simp only [size_alloc, size_setB, size_drew]; omega)) _ | refine Ext.trans ?_ (by assumption))), Hb.mk (Hb.h (by repeat (first | assumption | exact Hb.newY _ _ | refine Hb.alloc ?_ | refine Hb.drew ?_ | refine Hb.ext (by assumption) ?_ | exact Hb.setSameL (by first | omega | (simp only [size_alloc, size_setB, size_drew]; omega)) | exact Hb.setSame (by assumption) | refine Hb.set (by first | omega | (simp only [size_alloc, size_setB, size_drew]; omega)) ?_ ))), Hb.mk (Hb.h (by repeat (first | assumption | exact Hb.newY _ _ | refine Hb.alloc ?_ | refine Hb.drew ?_ | refine Hb.ext (by assumption) ?_ | exact Hb.setSameL (by first | omega | (simp only [size_alloc, size_setB, size_drew]; omega)) | exact Hb.setSame (by assumption) | refine Hb.set (by first | omega | (simp only [size_alloc, size_setB, size_drew]; omega)) ?_ )))⟩
      intro k5 ρ5 w5 hI5
      obtain ⟨j, c, R5, hjk, hLR5, hc5, hrest, hI5, hFr5, hE5, hbQ5, hbR5⟩ := hI5
      refine W_env _ hFr5 ?_
      have hz5 := hE5.1
      refine W_seq ?_
      refine W_region rfl ?_
      refine WO_p (PS_lss rfl rfl) ?_
      refine WO_nil ?_
      refine thn_normal ?_
      refine W_seq ?_
      refine W_if rfl (fun hb8 => ?_) (fun hb8 => ?_)
      · have hb8p := hb8.h; try simp only [al_ete, al_dfn, Bool.not_eq_true', Bool.not_eq_false', al_ne, Bool.not_not, al_nn] at hb8p
        have hgr := gd_by hLR.2 j
        have hcm : Ce (ic .u8 R5) (0 + j * 1) (.int .u8 (R.getD j 0)) := by rw [← hrest j (Nat.le_refl _)]; exact ce_ic (by rw [hLR5.1]; omega)
        have hst := dbl_step (M := R5) hLR.2 (by rw [hLR5.1]; omega) hc5 hI5
        have hcI : 0 ≤ (c : Int) ∧ (c : Int) ≤ 1 := by omega
        refine W_skip ?_
        refine thn_normal ?_
        refine W_seq ?_
        refine W_block ?_
        refine W_seq ?_
        refine W_region rfl ?_
        refine WO_p (PS_move_int rfl) ?_
        refine WO_p (PS_indexS Hvac.runUnderlying92 Hvac.sizeOf5 rfl rfl (by omega) (by omega)) ?_
        refine WO_load (.int _ _) Hvac.isAgg5 rfl (Hb.h (by repeat (first | assumption | exact Hb.newY _ _ | refine Hb.alloc ?_ | refine Hb.drew ?_ | refine Hb.ext (by assumption) ?_ | exact Hb.setSameL (by first | omega | (simp only [size_alloc, size_setB, size_drew]; omega)) | exact Hb.setSame (by assumption) | refine Hb.set (by first | omega | (simp only [size_alloc, size_setB, size_drew]; omega)) ?_ ))) (Ce.h (by first | assumption | exact ⟨rfl⟩)) ?_
        refine WO_p (PS_assign_int rfl) ?_
        refine WO_p (PS_assign_int rfl) ?_
        refine WO_nil ?_
        refine thn_normal ?_
        refine W_seq ?_
        refine W_region rfl ?_
        refine WO_p (PS_move_slice rfl) ?_
        refine WO_p (PS_move_int rfl) ?_
        refine WO_p (PS_move_int rfl) ?_
        refine WO_p (PS_shl_u8 1 rfl rfl (by decide) rfl) ?_
        refine WO_p (PS_move_int rfl) ?_
        refine WO_p (PS_or_u8 rfl rfl) ?_
        rw [shl1_or hgr hcI]
        refine WO_p (PS_indexS Hvac.runUnderlying92 Hvac.sizeOf5 rfl rfl (by omega) (by omega)) ?_
        refine WO_store1 Hvac.sizeOf5 rfl (v := .int _ _) rfl hbR5.h rfl (by rw [size_ic, hLR5.1]; omega) rfl ?_
        rw [show ((j : Int)).toNat = j from Int.toNat_natCast j, ic_set]
        refine WO_nil ?_
        refine thn_normal ?_
        refine W_region rfl ?_
        refine WO_p (PS_move_int rfl) ?_
        refine WO_p (PS_shr_u8 7 rfl rfl (by decide) rfl) ?_
        refine WO_p (PS_assign_int rfl) ?_
        refine WO_nil ?_
        refine inBlk_normal ?_
        refine thn_normal ?_
        refine W_region rfl ?_
        refine WO_p (PS_add_i64n rfl rfl (by omega) (by omega)) ?_
        refine WO_p (PS_move_int rfl) ?_
        refine WO_nil ?_
        refine thn_normal ?_
        exact ⟨k5 - 1, by omega, j + 1, (R.getD j 0 / 2 ^ 7).toNat, _, by omega, set_by hLR5 (by omega), by omega, fun q hq => by rw [gd_set _ _ _ _ (by rw [hLR5.1]; omega), if_neg (by omega)]; exact hrest q (by omega), hst, ⟨rfl, rfl, rfl, rfl, rfl, rfl, rfl, congrArg (Value.int .u8) (by omega), rfl, rfl, congrArg (Value.int .i64) (by omega), trivial⟩, Ext.setB hE5 (by omega) _, Hb.set (by omega) hbQ5, Hb.setSame hbR5⟩
      · have hb8p := hb8.h; try simp only [al_ete, al_dfn, Bool.not_eq_true', Bool.not_eq_false', al_ne, Bool.not_not, al_nn] at hb8p
        have hjn : j = n1 := by omega
        have e5 : R5.take n1 = R5 := List.take_of_length_le (by rw [hLR5.1]; exact Nat.le_refl _)
        have e6 : R.take n1 = R := List.take_of_length_le (by rw [hLR.1]; exact Nat.le_refl _)
        rw [hjn, e5, e6, hdR] at hI5
        have hdR5 : dv R5 = 2 * (nn / 2 ^ i % mm) + nn / 2 ^ (i - 1) % 2 := by
          have h1 := Nat.mod_lt (nn / 2 ^ i) (Nat.pos_of_ne_zero hy0)
          have h2 := lt_sz mm
          have h3 : 256 ^ n1 = 256 ^ sz mm * 256 := by rw [hn1, Nat.pow_succ]
          match c, hc5, hI5 with
          | 0, _, hI5 => omega
          | 1, _, hI5 => omega
        obtain ⟨hs1, hs2⟩ := div_step (x := nn) (y := mm) (i := i) (Nat.pos_of_ne_zero hy0) (by omega)
        rw [← hdR5] at hs1 hs2
        refine W_exit ?_
        refine thn_exit ?_
        refine thn_exit ?_
        refine inBlk_exit ?_
        refine thn_normal ?_
        refine W_seq ?_
        refine W_region rfl ?_
        refine WO_p (PS_move_slice rfl) ?_
        refine WO_p (PS_move_slice rfl) ?_
        refine WO_call Hvac.call76 (by rfl) (Ret.mono (cmpX_spec (some ⟨b8, 0, none⟩, n1, n1) (p', sz mm, sz mm) R5 (dg mm) _ (AB.whole hbR5 hLR5) (htB.ext hE5) (by show n1 ≤ _; omega) (by show sz mm ≤ _; omega)) ?_)
        rintro _ w6 ⟨hE6, hu6⟩
        rw [dv_dg] at hu6
        subst hu6
        have hz6 := hE6.1
        have hcb := cmpI_bd (dv R5) mm
        refine WO_p (PS_geq rfl rfl) ?_
        refine WO_nil ?_
        refine thn_normal ?_
        refine W_if rfl (fun hb11 => ?_) (fun hb11 => ?_)
        · have hb11p := hb11.h; try simp only [al_ete, al_dfn, Bool.not_eq_true', Bool.not_eq_false', al_ne, Bool.not_not, al_nn] at hb11p
          have hge : mm ≤ dv R5 := Nat.le_of_not_lt fun h9 => absurd (cmpI_lt.2 h9) (by omega)
          obtain ⟨hs2a, hs2b⟩ := hs2 hge
          refine W_seq ?_
          refine W_region rfl ?_
          refine WO_p (PS_move_slice rfl) ?_
          refine WO_p (PS_move_slice rfl) ?_
          refine WO_call Hvac.call161 (by rfl) (Ret.mono (takeX_spec b8 n1 n1 (p', sz mm, sz mm) R5 (dg mm) _ (hbR5.ext hE6) hLR5 (htB.ext (hE5.trans hE6)) (fun h0 b o e => by have := hb2 h0 b o e; omega) (by omega) (by show sz mm ≤ n1; omega)) ?_)
          rintro _ w7 ⟨c7, R7, rfl, hc7, hT7, hd7⟩
          rw [dv_dg] at hd7
          have hz7 := hT7.keep.sz
          have hE7 : Ext w w7 := hT7.ext (hE5.trans hE6) (by omega)
          have hLR7 : By R7 n1 := ⟨by rw [hT7.len]; exact hLR5.1, hT7.ty hLR5.2⟩
          have hbQ7 : Hb w7 b7 (.cells (ic .u8 Q) 5 (0, 0)) := hT7.other (hbQ5.ext hE6) (by omega)
          have hbR7 := hT7.hb
          refine WO_nil ?_
          refine thn_normal ?_
          refine W_region rfl ?_
          have hcq : Ce (ic .u8 Q) (0 + (((i : Int) - 1) / 8).toNat * 1) (.int .u8 (Q.getD ((i - 1) / 8) 0)) := by rw [hat8]; exact ce_ic (by rw [hLQ.1]; omega)
          have hq0 : dv Q / 2 ^ (i - 1) % 2 = 0 := by
            obtain ⟨k9, hk9⟩ : ∃ k9, i = k9 + 1 := ⟨i - 1, by omega⟩
            rw [hdQ, hk9, Nat.add_sub_cancel, Nat.pow_succ, ← Nat.mul_assoc, Nat.mul_comm _ (2 ^ k9), Nat.mul_assoc, Nat.mul_div_cancel_left _ (Nat.pow_pos (by decide)), Nat.mul_mod_left]
          have hos := or_set hLQ.2 (i := i - 1) (by rw [hLQ.1]; omega) hq0
          have hob := bOr8_bd (Q.getD ((i - 1) / 8) 0) ((1 * 2 ^ ((i - 1) % 8)) % 256)
          have hdR7 : dv R7 = dv R5 - mm := by
            have h1 := dv_lt hLR7.2
            rw [hLR7.1] at h1
            match c7, hc7, hd7 with
            | 0, _, hd7 => omega
            | 1, _, hd7 => omega
          refine WO_p (PS_move_slice rfl) ?_
          refine WO_p (PS_move_int rfl) ?_
          refine WO_p (PS_indexS Hvac.runUnderlying92 Hvac.sizeOf5 rfl rfl (by omega) (by omega)) ?_
          refine WO_load (.int _ _) Hvac.isAgg5 rfl (Hb.h (by repeat (first | assumption | exact Hb.newY _ _ | refine Hb.alloc ?_ | refine Hb.drew ?_ | refine Hb.ext (by assumption) ?_ | exact Hb.setSameL (by first | omega | (simp only [size_alloc, size_setB, size_drew]; omega)) | exact Hb.setSame (by assumption) | refine Hb.set (by first | omega | (simp only [size_alloc, size_setB, size_drew]; omega)) ?_ ))) (Ce.h (by first | assumption | exact ⟨rfl⟩)) ?_
          refine WO_p (PS_move_int rfl) ?_
          refine WO_p (PS_shl_u8 ((i - 1) % 8) rfl rfl (by omega) (by omega)) ?_
          refine WO_p (PS_or_u8 rfl rfl) ?_
          refine WO_p (PS_indexS Hvac.runUnderlying92 Hvac.sizeOf5 rfl rfl (by omega) (by omega)) ?_
          refine WO_store1 Hvac.sizeOf5 rfl (v := .int _ _) rfl hbQ7.h rfl (by rw [size_ic, hLQ.1]; omega) rfl ?_
          rw [hat8, ic_set]
          refine WO_nil ?_
          refine inBlk_normal ?_
          refine thn_normal ?_
          refine W_region rfl ?_
          refine WO_p (PS_move_int rfl) ?_
          refine WO_p (PS_sub_i64n rfl rfl (by omega) (by omega)) ?_
          refine WO_p (PS_assign_int rfl) ?_
          refine WO_nil ?_
          refine thn_normal ?_
          first
          | exact ⟨k4 - 1, by omega, i - 1, Q, R5, by omega, by omega, hLQ, hLR5, hdQ.trans hs1b.symm, hs1a.symm, ⟨rfl, rfl, rfl, rfl, congrArg (Value.int .i64) (by omega), trivial⟩, (by repeat (first | assumption | exact Ext.refl _ | refine Ext.alloc ?_ _ | refine Ext.drew ?_ | refine Ext.setB ?_ (by first | omega | (simp only [size_alloc, size_setB, size_drew]; omega)) _ | refine Ext.trans ?_ (by assumption))), Hb.mk (Hb.h (by repeat (first | assumption | exact Hb.newY _ _ | refine Hb.alloc ?_ | refine Hb.drew ?_ | refine Hb.ext (by assumption) ?_ | exact Hb.setSameL (by first | omega | (simp only [size_alloc, size_setB, size_drew]; omega)) | exact Hb.setSame (by assumption) | refine Hb.set (by first | omega | (simp only [size_alloc, size_setB, size_drew]; omega)) ?_ ))), Hb.mk (Hb.h (by repeat (first | assumption | exact Hb.newY _ _ | refine Hb.alloc ?_ | refine Hb.drew ?_ | refine Hb.ext (by assumption) ?_ | exact Hb.setSameL (by first | omega | (simp only [size_alloc, size_setB, size_drew]; omega)) | exact Hb.setSame (by assumption) | refine Hb.set (by first | omega | (simp only [size_alloc, size_setB, size_drew]; omega)) ?_ )))⟩
          | exact ⟨k4 - 1, by omega, i - 1, _, R7, by omega, by omega, set_by hLQ hob, hLR7, (hos.trans (by rw [hdQ]; exact hs2b.symm)), hdR7.trans hs2a.symm, ⟨rfl, rfl, rfl, rfl, congrArg (Value.int .i64) (by omega), trivial⟩, Ext.setB hE7 (by omega) _, Hb.setSame hbQ7, Hb.set (by omega) hbR7⟩
        · have hb11p := hb11.h; try simp only [al_ete, al_dfn, Bool.not_eq_true', Bool.not_eq_false', al_ne, Bool.not_not, al_nn] at hb11p
          have hlt : dv R5 < mm := cmpI_lt.1 (by omega)
          obtain ⟨hs1a, hs1b⟩ := hs1 hlt
          refine W_skip ?_
          refine inBlk_normal ?_
          refine thn_normal ?_
          refine W_region rfl ?_
          refine WO_p (PS_move_int rfl) ?_
          refine WO_p (PS_sub_i64n rfl rfl (by omega) (by omega)) ?_
          refine WO_p (PS_assign_int rfl) ?_
          refine WO_nil ?_
          refine thn_normal ?_
          first
          | exact ⟨k4 - 1, by omega, i - 1, Q, R5, by omega, by omega, hLQ, hLR5, hdQ.trans hs1b.symm, hs1a.symm, ⟨rfl, rfl, rfl, rfl, congrArg (Value.int .i64) (by omega), trivial⟩, (by repeat (first | assumption | exact Ext.refl _ | refine Ext.alloc ?_ _ | refine Ext.drew ?_ | refine Ext.setB ?_ (by first | omega | (simp only [size_alloc, size_setB, size_drew]; omega)) _ | refine Ext.trans ?_ (by assumption))), Hb.mk (Hb.h (by repeat (first | assumption | exact Hb.newY _ _ | refine Hb.alloc ?_ | refine Hb.drew ?_ | refine Hb.ext (by assumption) ?_ | exact Hb.setSameL (by first | omega | (simp only [size_alloc, size_setB, size_drew]; omega)) | exact Hb.setSame (by assumption) | refine Hb.set (by first | omega | (simp only [size_alloc, size_setB, size_drew]; omega)) ?_ ))), Hb.mk (Hb.h (by repeat (first | assumption | exact Hb.newY _ _ | refine Hb.alloc ?_ | refine Hb.drew ?_ | refine Hb.ext (by assumption) ?_ | exact Hb.setSameL (by first | omega | (simp only [size_alloc, size_setB, size_drew]; omega)) | exact Hb.setSame (by assumption) | refine Hb.set (by first | omega | (simp only [size_alloc, size_setB, size_drew]; omega)) ?_ )))⟩
          | exact ⟨k4 - 1, by omega, i - 1, _, R7, by omega, by omega, set_by hLQ hob, hLR7, (hos.trans (by rw [hdQ]; exact hs2b.symm)), hdR7.trans hs2a.symm, ⟨rfl, rfl, rfl, rfl, congrArg (Value.int .i64) (by omega), trivial⟩, Ext.setB hE7 (by omega) _, Hb.setSame hbQ7, Hb.set (by omega) hbR7⟩
    · have hb6p := hb6.h; try simp only [al_ete, al_dfn, Bool.not_eq_true', Bool.not_eq_false', al_ne, Bool.not_not, al_nn] at hb6p
      refine W_exit ?_
      refine thn_exit ?_
      refine thn_exit ?_
      refine inBlk_exit ?_
      refine thn_normal ?_
      refine W_seq ?_
      refine W_region rfl ?_
      refine WO_p (PS_move_slice rfl) ?_
      refine WO_call Hvac.call87 (by rfl) (Ret.mono (clipX_spec (some ⟨b7, 0, none⟩, sz nn, sz nn) Q _ (PB.newY hbQ4 hfr7 hLQ.2 hLQ.1) (by show sz nn ≤ _; omega)) ?_)
      rintro _ w9 ⟨hE9, s9, rfl, hs9⟩
      refine WO_p (PS_move_slice rfl) ?_
      refine WO_call Hvac.call87 (by rfl) (Ret.mono (clipX_spec (some ⟨b8, 0, none⟩, n1, n1) R _ (PB.newY (hbR4.ext hE9) hfr8 hLR.2 hLR.1) (by show n1 ≤ _; omega)) ?_)
      rintro _ w10 ⟨hE10, s10, rfl, hs10⟩
      refine WO_p (PS_assign_slice rfl) ?_
      refine WO_p (PS_assign_slice rfl) ?_
      refine WO_p (PS_assign_bool rfl) ?_
      refine WO_nil ?_
      refine thn_normal ?_
      refine W_ret ?_
      refine bodyQ_ret3 Hvac.results225 rfl rfl rfl (.slice _ _ _) (.slice _ _ _) (.bool _) rfl rfl rfl ?_
      first
      | (refine ⟨(by repeat (first | assumption | exact Ext.refl _ | refine Ext.alloc ?_ _ | refine Ext.drew ?_ | refine Ext.setB ?_ (by first | omega | (simp only [size_alloc, size_setB, size_drew]; omega)) _ | refine Ext.trans ?_ (by assumption))), (none, 0, 0), (none, 0, 0), ?_, ?_, ?_⟩
         · rw [al_ef (by simp [hm0])] <;> rfl
         · rw [hm0, Nat.div_zero]; exact NN.nil _
         · rw [if_pos hm0]; exact NN.nil _)
      | (have hi0 : i = 0 := by omega
         rw [hi0, Nat.pow_zero, Nat.div_one, Nat.mul_one] at hdQ
         rw [hi0, Nat.pow_zero, Nat.div_one] at hdR
         rw [hdQ] at hs9
         rw [hdR] at hs10
         refine ⟨(by repeat (first | assumption | exact Ext.refl _ | refine Ext.alloc ?_ _ | refine Ext.drew ?_ | refine Ext.setB ?_ (by first | omega | (simp only [size_alloc, size_setB, size_drew]; omega)) _ | refine Ext.trans ?_ (by assumption))), s9, s10, ?_, PB.ext hs9 hE10, ?_⟩
         · rw [al_et hy0] <;> rfl
         · rw [if_neg hy0]; exact hs10)

end Go.Proofs.YgvacwGreat
