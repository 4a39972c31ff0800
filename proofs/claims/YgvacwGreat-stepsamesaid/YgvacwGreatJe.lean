import Derived.Test.YgvacwGreatJd
import Derived.Test.YgvacwGreatUk
namespace Go.Proofs.YgvacwGreat
set_option linter.unusedSimpArgs false
set_option linter.unusedVariables false
/-- the row of the block b has turned to one of which P holds -/
def TurnX (b : Nat) (T : TypeId) (L : List Int) (w w' : World) (P : List Int → Prop) : Prop := ∃ L', L'.length = L.length ∧ UL L' ∧ Hb w' b (.cells (ic .u64 L') T (0, 0)) ∧ KeepO (fun x => x = b) w w' ∧ P L'
theorem sub64_exx (x y c : Int) (w : World) (hx : 0 ≤ x ∧ x ≤ 18446744073709551615) (hy : 0 ≤ y ∧ y ≤ 18446744073709551615) (hc : 0 ≤ c ∧ c ≤ 1) : Ret Hvac.prog 217 #[.int .u64 x, .int .u64 y, .int .u64 c] w fun v w' => ∃ s k : Int, v = .tuple #[.int .u64 s, .int .u64 k] ∧ (0 ≤ s ∧ s ≤ 18446744073709551615) ∧ (0 ≤ k ∧ k ≤ 1) ∧ s - k * 18446744073709551616 = x - y - c ∧ w' = w :=
  Ret.mono (sub64_spec x y c w hx.1 hy.1 hy.2 hc.1 hc.2) (by rintro _ _ ⟨rfl, rfl⟩; refine ⟨_, _, rfl, by omega, bor_bd _ _, ?_, rfl⟩; unfold bor; split <;> omega)

theorem tt_fin {U L Y : List Int} {ou ov n : Nat} {c d s k q : Int} (hl : ou + n < L.length) (hu : L.getD (ou + n) 0 = U.getD (ou + n) 0) (h : lvr U ou n - q * lvr Y ov n = lvr L ou n - (c + d) * 18446744073709551616 ^ n) (hk : 0 ≤ k ∧ k ≤ 1) (h2 : s - k * 18446744073709551616 = L.getD (ou + n) 0 - c - d) : lvr (L.set (ou + n) s) ou (n + 1) = lvr U ou (n + 1) - q * lvr Y ov n + (if decide (k ≠ 0) = true then 18446744073709551616 ^ n * 18446744073709551616 else 0) := by
  rw [lvr_set_last hl, lvr_succ]
  rw [hu] at h2
  have e : U.getD (ou + n) 0 = s - k * 18446744073709551616 + (c + d) := by omega
  rw [e, Int.add_mul, Int.sub_mul, Int.mul_assoc k, Int.mul_comm 18446744073709551616 (18446744073709551616 ^ n)]
  have hk2 : k = 0 ∨ k = 1 := by omega
  rcases hk2 with rfl | rfl
  · rw [if_neg (by decide)]; omega
  · rw [if_pos (by decide)]; omega

set_option maxRecDepth 10000 in
theorem shiftUp_ex (b o n cp : Nat) (T : TypeId) (L : List Int) (s : Nat) (w : World) (hb : Hb w b (.cells (ic .u64 L) T (0, 0))) (hL : UL L) (hon : o + n ≤ L.length) (hn : n ≤ 1000) (hs : s ≤ 63) : Ret Hvac.prog 365 #[.slice (some ⟨b, o, none⟩) n cp, .int .u8 s] w fun u w' => u = .tuple #[] ∧ TurnX b T L w w' fun L' => (∃ c, (0 ≤ c ∧ c < 2 ^ s) ∧ lvr L' o n + c * 18446744073709551616 ^ n = lvr L o n * 2 ^ s) ∧ (∀ k, k < o ∨ o + n ≤ k → L'.getD k 0 = L.getD k 0) := by
  refine Ret_of_W Hvac.func365 rfl rfl ?_
  refine W_seq ?_
  refine W_seq ?_
  refine W_region rfl ?_
  refine WO_p (PS_move_int rfl) ?_
  refine WO_p (PS_geq rfl rfl) ?_
  refine WO_nil ?_
  refine thn_normal ?_
  refine W_if rfl (fun hb2 => ?_) (fun hb2 => ?_)
  · have hb2p := hb2.h; try simp only [al_ete, al_dfn, Bool.not_eq_true', Bool.not_eq_false', al_ne, Bool.not_not, al_nn] at hb2p
    refine W_ret ?_
    refine thn_ret ?_
    first | refine bodyQ_ret0 Hvac.results365 ?_ | refine bodyQ_end0 Hvac.results365 ?_
    first
    | (exfalso; omega)
    | exact ⟨rfl, L2, hl2, hL2, hb2, hk2, ⟨c, hc, by rw [show i = n by omega] at hlv; exact hlv⟩, fun k hk => hou k (by omega)⟩
  · have hb2p := hb2.h; try simp only [al_ete, al_dfn, Bool.not_eq_true', Bool.not_eq_false', al_ne, Bool.not_not, al_nn] at hb2p
    refine W_skip ?_
    refine thn_normal ?_
    refine W_seq ?_
    refine W_region rfl ?_
    refine WO_p (PS_assign_int rfl) ?_
    refine WO_nil ?_
    refine thn_normal ?_
    refine W_seq ?_
    refine W_region rfl ?_
    refine WO_p (PS_move_slice rfl) ?_
    refine WO_p (PS_lenS Hvac.runUnderlying280 rfl) ?_
    refine WO_p (PS_move_int rfl) ?_
    refine WO_nil ?_
    refine thn_normal ?_
    refine W_block ?_
    refine W_loopN (fun m ρ w' => ∃ (i : Nat) (c : Int) (L2 : List Int), i + m = n ∧ (0 ≤ c ∧ c < 2 ^ s) ∧ L2.length = L.length ∧ UL L2 ∧ lvr L2 o i + c * 18446744073709551616 ^ i = lvr L o i * 2 ^ s ∧ (∀ k, k < o ∨ o + i ≤ k → L2.getD k 0 = L.getD k 0) ∧ Fr [(0, .slice (some ⟨b, o, none⟩) n cp), (1, .int .u8 s), (4, .int .u64 c), (9, .slice (some ⟨b, o, none⟩) n cp), (10, .int .i64 n), (11, .int .i64 i)] ρ ∧ Hb w' b (.cells (ic .u64 L2) T (0, 0)) ∧ KeepO (fun x => x = b) w w') n ?_ ?_
    · exact ⟨0, 0, L, by omega, ⟨by omega, pow2_pos s⟩, rfl, hL, by simp [lvr], fun _ _ => rfl, ⟨rfl, rfl, rfl, rfl, rfl, rfl, trivial⟩, hb, KeepO.refl _ _⟩
    intro m ρ w2 hI
    obtain ⟨i, c, L2, him, hc, hl2, hL2, hlv, hou, hF, hb2, hk2⟩ := hI
    refine W_env _ hF ?_
    refine W_seq ?_
    refine W_region rfl ?_
    refine WO_p (PS_lss rfl rfl) ?_
    refine WO_nil ?_
    refine thn_normal ?_
    refine W_seq ?_
    refine W_if rfl (fun hb4 => ?_) (fun hb4 => ?_)
    · have hb4p := hb4.h; try simp only [al_ete, al_dfn, Bool.not_eq_true', Bool.not_eq_false', al_ne, Bool.not_not, al_nn] at hb4p
      have hce : Ce (ic .u64 L2) (o + ((i:Int)).toNat * 1) (.int .u64 (L2.getD (o + i) 0)) := by rw [show ((i:Int)).toNat = i from Int.toNat_natCast i]; exact ce_icO (by omega)
      have hx2 := hL2.get (o + i)
      refine W_skip ?_
      refine thn_normal ?_
      refine W_seq ?_
      refine W_block ?_
      refine W_seq ?_
      refine W_region rfl ?_
      refine WO_p (PS_move_int rfl) ?_
      refine WO_p (PS_indexS Hvac.runUnderlying280 Hvac.sizeOf26 rfl rfl (by omega) (by omega)) ?_
      refine WO_load (.int _ _) Hvac.isAgg26 rfl (Hb.h (by repeat (first | assumption | exact Hb.newY _ _ | refine Hb.alloc ?_ | refine Hb.drew ?_ | refine Hb.ext (by assumption) ?_ | exact Hb.setSameL (by first | omega | (simp only [size_alloc, size_setB, size_drew]; omega)) | exact Hb.setSame (by assumption) | refine Hb.set (by first | omega | (simp only [size_alloc, size_setB, size_drew]; omega)) ?_ ))) (Ce.h (by first | assumption | exact ⟨rfl⟩)) ?_
      refine WO_p (PS_assign_int rfl) ?_
      refine WO_p (PS_assign_int rfl) ?_
      refine WO_nil ?_
      refine thn_normal ?_
      refine W_seq ?_
      refine W_region rfl ?_
      refine WO_p (PS_move_slice rfl) ?_
      refine WO_p (PS_move_int rfl) ?_
      refine WO_p (PS_move_int rfl) ?_
      refine WO_p (PS_move_int rfl) ?_
      refine WO_p (PS_shl_u64 _ rfl rfl (by omega) rfl) ?_
      refine WO_p (PS_move_int rfl) ?_
      refine WO_p (PS_or_u64 rfl rfl) ?_
      refine WO_p (PS_indexS Hvac.runUnderlying280 Hvac.sizeOf26 rfl rfl (by omega) (by omega)) ?_
      refine WO_store1 Hvac.sizeOf26 rfl (v := .int _ _) rfl hb2.h rfl (by rw [size_ic]; omega) rfl ?_
      rw [show ((i:Int)).toNat = i from Int.toNat_natCast i, ic_setO]
      refine WO_nil ?_
      refine thn_normal ?_
      refine W_region rfl ?_
      refine WO_p (PS_move_int rfl) ?_
      refine WO_p (PS_move_int rfl) ?_
      refine WO_p (PS_sub_u8n rfl rfl (by omega) (by omega)) ?_
      refine WO_p (PS_shr_u64 _ rfl rfl (by omega) rfl) ?_
      refine WO_p (PS_assign_int rfl) ?_
      refine WO_nil ?_
      refine inBlk_normal ?_
      refine thn_normal ?_
      refine W_region rfl ?_
      refine WO_p (PS_add_i64n rfl rfl (by omega) (by omega)) ?_
      refine WO_p (PS_move_int rfl) ?_
      refine WO_nil ?_
      refine thn_normal ?_
      have hmn : min ((s : Nat) : Int).toNat 64 = s := by omega
      have hmn2 : min (64 - ((s : Nat) : Int)).toNat 64 = 64 - s := by omega
      have hxe := hou (o + i) (Or.inr (Nat.le_refl _))
      exact ⟨m - 1, by omega, i + 1, L.getD (o + i) 0 / 2 ^ (64 - s), L2.set (o + i) _, by omega, div_pow_bd (by omega) (hL.get _), by rw [List.length_set]; exact hl2, hL2.set _ (bOr_bd _ _), up_step (by omega) (by omega) hlv (by rw [hmn, or_up (by omega) hc, hxe]), fun k hk => by rw [getD_setI, if_neg (by omega)]; exact hou k (by omega), ⟨rfl, rfl, congrArg (Value.int .u64) (by rw [hmn2, hxe]), rfl, rfl, congrArg (Value.int .i64) (by omega), trivial⟩, Hb.setSame hb2, hk2.setB (fun _ => rfl) _⟩
    · have hb4p := hb4.h; try simp only [al_ete, al_dfn, Bool.not_eq_true', Bool.not_eq_false', al_ne, Bool.not_not, al_nn] at hb4p
      refine W_exit ?_
      refine thn_exit ?_
      refine thn_exit ?_
      refine inBlk_exit ?_
      first | refine bodyQ_ret0 Hvac.results365 ?_ | refine bodyQ_end0 Hvac.results365 ?_
      first
      | (exfalso; omega)
      | exact ⟨rfl, L2, hl2, hL2, hb2, hk2, ⟨c, hc, by rw [show i = n by omega] at hlv; exact hlv⟩, fun k hk => hou k (by omega)⟩

set_option maxRecDepth 10000 in
theorem shiftDown_ex (b o n cp : Nat) (T : TypeId) (L : List Int) (s : Nat) (w : World) (hb : Hb w b (.cells (ic .u64 L) T (0, 0))) (hL : UL L) (hon : o + n ≤ L.length) (hn : n ≤ 1000) (hs : s ≤ 63) : Ret Hvac.prog 367 #[.slice (some ⟨b, o, none⟩) n cp, .int .u8 s] w fun u w' => u = .tuple #[] ∧ TurnX b T L w w' fun L' => lvr L' o n = lvr L o n / 2 ^ s ∧ (∀ k, k < o ∨ o + n ≤ k → L'.getD k 0 = L.getD k 0) := by
  refine Ret_of_W Hvac.func367 rfl rfl ?_
  refine W_seq ?_
  refine W_seq ?_
  refine W_region rfl ?_
  refine WO_p (PS_move_int rfl) ?_
  refine WO_p (PS_geq rfl rfl) ?_
  refine WO_nil ?_
  refine thn_normal ?_
  refine W_if rfl (fun hb2 => ?_) (fun hb2 => ?_)
  · have hb2p := hb2.h; try simp only [al_ete, al_dfn, Bool.not_eq_true', Bool.not_eq_false', al_ne, Bool.not_not, al_nn] at hb2p
    refine W_ret ?_
    refine thn_ret ?_
    first | refine bodyQ_ret0 Hvac.results367 ?_ | refine bodyQ_end0 Hvac.results367 ?_
    first
    | (exfalso; omega)
    | exact ⟨rfl, L2, hl2, hL2, hb2, hk2, by rw [show m = 0 by omega] at hlv; rw [Nat.add_zero, Nat.sub_zero] at hlv; rw [hlv, Int.add_comm, Int.add_mul_ediv_left _ _ (Int.ne_of_gt (pow2_pos s)), Int.ediv_eq_zero_of_lt he.1 he.2]; omega, fun k hk => hou k (by omega)⟩
  · have hb2p := hb2.h; try simp only [al_ete, al_dfn, Bool.not_eq_true', Bool.not_eq_false', al_ne, Bool.not_not, al_nn] at hb2p
    refine W_skip ?_
    refine thn_normal ?_
    refine W_seq ?_
    refine W_region rfl ?_
    refine WO_p (PS_assign_int rfl) ?_
    refine WO_nil ?_
    refine thn_normal ?_
    refine W_seq ?_
    refine W_region rfl ?_
    refine WO_p (PS_move_slice rfl) ?_
    refine WO_p (PS_lenS Hvac.runUnderlying280 rfl) ?_
    refine WO_p (PS_assign_int rfl) ?_
    refine WO_nil ?_
    refine thn_normal ?_
    refine W_block ?_
    refine W_loopN (fun m ρ w' => ∃ (e : Int) (L2 : List Int), m ≤ n ∧ (0 ≤ e ∧ e < 2 ^ s) ∧ L2.length = L.length ∧ UL L2 ∧ lvr L (o + m) (n - m) = 2 ^ s * lvr L2 (o + m) (n - m) + e ∧ (∀ k, k < o + m ∨ o + n ≤ k → L2.getD k 0 = L.getD k 0) ∧ Fr [(0, .slice (some ⟨b, o, none⟩) n cp), (1, .int .u8 s), (4, .int .u64 (e * 2 ^ (64 - s))), (5, .int .i64 m)] ρ ∧ Hb w' b (.cells (ic .u64 L2) T (0, 0)) ∧ KeepO (fun x => x = b) w w') n ?_ ?_
    · exact ⟨0, L, by omega, ⟨by omega, pow2_pos s⟩, rfl, hL, by simp [lvr], fun _ _ => rfl, ⟨rfl, rfl, congrArg (Value.int .u64) (by simp), rfl, trivial⟩, hb, KeepO.refl _ _⟩
    intro m ρ w2 hI
    obtain ⟨e, L2, him, he, hl2, hL2, hlv, hou, hF, hb2, hk2⟩ := hI
    refine W_env _ hF ?_
    refine W_seq ?_
    refine W_seq ?_
    refine W_region rfl ?_
    refine WO_p (PS_move_int rfl) ?_
    refine WO_p (PS_gtr rfl rfl) ?_
    refine WO_nil ?_
    refine thn_normal ?_
    refine W_if rfl (fun hb4 => ?_) (fun hb4 => ?_)
    · have hb4p := hb4.h; try simp only [al_ete, al_dfn, Bool.not_eq_true', Bool.not_eq_false', al_ne, Bool.not_not, al_nn] at hb4p
      have hce : Ce (ic .u64 L2) (o + ((m:Int) - 1).toNat * 1) (.int .u64 (L2.getD (o + (m - 1)) 0)) := by rw [show ((m:Int) - 1).toNat = m - 1 by omega]; exact ce_icO (by omega)
      have hx2 := hL2.get (o + (m - 1))
      refine W_skip ?_
      refine thn_normal ?_
      refine W_seq ?_
      refine W_block ?_
      refine W_seq ?_
      refine W_region rfl ?_
      refine WO_p (PS_move_slice rfl) ?_
      refine WO_p (PS_move_int rfl) ?_
      refine WO_p (PS_sub_i64n rfl rfl (by omega) (by omega)) ?_
      refine WO_p (PS_indexS Hvac.runUnderlying280 Hvac.sizeOf26 rfl rfl (by omega) (by omega)) ?_
      refine WO_load (.int _ _) Hvac.isAgg26 rfl (Hb.h (by repeat (first | assumption | exact Hb.newY _ _ | refine Hb.alloc ?_ | refine Hb.drew ?_ | refine Hb.ext (by assumption) ?_ | exact Hb.setSameL (by first | omega | (simp only [size_alloc, size_setB, size_drew]; omega)) | exact Hb.setSame (by assumption) | refine Hb.set (by first | omega | (simp only [size_alloc, size_setB, size_drew]; omega)) ?_ ))) (Ce.h (by first | assumption | exact ⟨rfl⟩)) ?_
      refine WO_p (PS_assign_int rfl) ?_
      refine WO_nil ?_
      refine thn_normal ?_
      refine W_seq ?_
      refine W_region rfl ?_
      refine WO_p (PS_move_slice rfl) ?_
      refine WO_p (PS_move_int rfl) ?_
      refine WO_p (PS_sub_i64n rfl rfl (by omega) (by omega)) ?_
      refine WO_p (PS_move_int rfl) ?_
      refine WO_p (PS_move_int rfl) ?_
      refine WO_p (PS_shr_u64 _ rfl rfl (by omega) rfl) ?_
      refine WO_p (PS_move_int rfl) ?_
      refine WO_p (PS_or_u64 rfl rfl) ?_
      refine WO_p (PS_indexS Hvac.runUnderlying280 Hvac.sizeOf26 rfl rfl (by omega) (by omega)) ?_
      refine WO_store1 Hvac.sizeOf26 rfl (v := .int _ _) rfl hb2.h rfl (by rw [size_ic]; omega) rfl ?_
      rw [show ((m:Int) - 1).toNat = m - 1 by omega, ic_setO]
      refine WO_nil ?_
      refine thn_normal ?_
      refine W_region rfl ?_
      refine WO_p (PS_move_int rfl) ?_
      refine WO_p (PS_move_int rfl) ?_
      refine WO_p (PS_sub_u8n rfl rfl (by omega) (by omega)) ?_
      refine WO_p (PS_shl_u64 _ rfl rfl (by omega) rfl) ?_
      refine WO_p (PS_assign_int rfl) ?_
      refine WO_nil ?_
      refine inBlk_normal ?_
      refine thn_normal ?_
      refine W_region rfl ?_
      refine WO_p (PS_move_int rfl) ?_
      refine WO_p (PS_sub_i64n rfl rfl (by omega) (by omega)) ?_
      refine WO_p (PS_assign_int rfl) ?_
      refine WO_nil ?_
      refine thn_normal ?_
      have hmn : min ((s : Nat) : Int).toNat 64 = s := by omega
      have hmn2 : min (64 - ((s : Nat) : Int)).toNat 64 = 64 - s := by omega
      have hxe := hou (o + (m - 1)) (Or.inl (by omega))
      have hbd := div_pow_bd (y := L2.getD (o + (m - 1)) 0) (r := 64 - s) (by omega) hx2
      rw [show 64 - (64 - s) = s by omega] at hbd
      have hmb := mod_pow_bd (x := e) (r := 64 - s) (by omega)
      rw [show 64 - (64 - s) = s by omega, Int.emod_eq_of_lt he.1 he.2] at hmb
      exact ⟨m - 1, by omega, L.getD (o + (m - 1)) 0 % 2 ^ s, L2.set (o + (m - 1)) _, by omega, ⟨Int.emod_nonneg _ (Int.ne_of_gt (pow2_pos s)), Int.emod_lt_of_pos _ (pow2_pos s)⟩, by rw [List.length_set]; exact hl2, hL2.set _ (bOr_bd _ _), dn2_step (by omega) (by omega) (by omega) (by omega) hlv (by rw [hmn, bOr_shl (64 - s) hbd.1 hbd.2 he.1 (by omega), hxe]), fun k hk => by rw [getD_setI, if_neg (by omega)]; exact hou k (by omega), ⟨rfl, rfl, congrArg (Value.int .u64) (by rw [hmn2, shr_mod (by omega), hxe]), congrArg (Value.int .i64) (by omega), trivial⟩, Hb.setSame hb2, hk2.setB (fun _ => rfl) _⟩
    · have hb4p := hb4.h; try simp only [al_ete, al_dfn, Bool.not_eq_true', Bool.not_eq_false', al_ne, Bool.not_not, al_nn] at hb4p
      refine W_exit ?_
      refine thn_exit ?_
      refine thn_exit ?_
      refine inBlk_exit ?_
      first | refine bodyQ_ret0 Hvac.results367 ?_ | refine bodyQ_end0 Hvac.results367 ?_
      first
      | (exfalso; omega)
      | exact ⟨rfl, L2, hl2, hL2, hb2, hk2, by rw [show m = 0 by omega] at hlv; rw [Nat.add_zero, Nat.sub_zero] at hlv; rw [hlv, Int.add_comm, Int.add_mul_ediv_left _ _ (Int.ne_of_gt (pow2_pos s)), Int.ediv_eq_zero_of_lt he.1 he.2]; omega, fun k hk => hou k (by omega)⟩

set_option maxRecDepth 10000 in
theorem short_ex (b n : Nat) (T : TypeId) (L : List Int) (y : Int) (w : World) (hb : Hb w b (.cells (ic .u64 L) T (0, 0))) (hL : UL L) (hl : L.length = 8) (hn : n ≤ 8) (hy : 0 < y ∧ y ≤ 18446744073709551615) : Ret Hvac.prog 378 #[.pointer (some ⟨b, 0, none⟩), .int .u8 n, .int .u64 y] w fun u w' => ∃ r : Int, u = .int .u64 r ∧ (0 ≤ r ∧ r < y) ∧ TurnX b T L w w' fun L' => lvr L 0 n = lvr L' 0 n * y + r ∧ (∀ k, n ≤ k → L'.getD k 0 = L.getD k 0) := by
  refine Ret_of_W Hvac.func378 rfl rfl ?_
  refine W_seq ?_
  refine W_region rfl ?_
  refine WO_p (PS_assign_int rfl) ?_
  refine WO_nil ?_
  refine thn_normal ?_
  refine W_seq ?_
  refine W_region rfl ?_
  refine WO_p (PS_assign_int rfl) ?_
  refine WO_nil ?_
  refine thn_normal ?_
  refine W_seq ?_
  refine W_seq ?_
  refine W_region rfl ?_
  refine WO_p (PS_move_int rfl) ?_
  refine WO_p (PS_assign_int rfl) ?_
  refine WO_nil ?_
  refine thn_normal ?_
  refine W_block ?_
  refine W_loopN (fun m ρ w' => ∃ (r : Int) (L2 : List Int), m ≤ n ∧ (0 ≤ r ∧ r < y) ∧ L2.length = 8 ∧ UL L2 ∧ lvr L m (n - m) = lvr L2 m (n - m) * y + r ∧ (∀ k, k < m ∨ n ≤ k → L2.getD k 0 = L.getD k 0) ∧ Fr [(0, .pointer (some ⟨b, 0, none⟩)), (2, .int .u64 y), (7, .int .u64 r), (8, .int .u8 m)] ρ ∧ Hb w' b (.cells (ic .u64 L2) T (0, 0)) ∧ KeepO (fun x => x = b) w w') n ?_ ?_
  · exact ⟨0, L, by omega, by omega, hl, hL, by simp [lvr], fun _ _ => rfl, ⟨rfl, rfl, rfl, rfl, trivial⟩, hb, KeepO.refl _ _⟩
  intro m ρ w2 hI
  obtain ⟨r, L2, him, hr, hl2, hL2, hlv, hou, hF, hB2, hk2⟩ := hI
  refine W_env _ hF ?_
  refine W_seq ?_
  refine W_seq ?_
  refine W_region rfl ?_
  refine WO_p (PS_move_int rfl) ?_
  refine WO_p (PS_gtr rfl rfl) ?_
  refine WO_nil ?_
  refine thn_normal ?_
  refine W_if rfl (fun hb2 => ?_) (fun hb2 => ?_)
  · have hb2p := hb2.h; try simp only [al_ete, al_dfn, Bool.not_eq_true', Bool.not_eq_false', al_ne, Bool.not_not, al_nn] at hb2p
    have hce : Ce (ic .u64 L2) (0 + ((m:Int) - 1).toNat * 1) (.int .u64 (L2.getD (m - 1) 0)) := by rw [show ((m:Int) - 1).toNat = m - 1 by omega]; exact ce_ic (by omega)
    have hx2 := hL2.get (m - 1)
    refine W_skip ?_
    refine thn_normal ?_
    refine W_seq ?_
    refine W_block ?_
    refine W_seq ?_
    refine W_region rfl ?_
    refine WO_p (PS_move_int rfl) ?_
    refine WO_p (PS_move_ptr rfl) ?_
    refine WO_p (PS_move_int rfl) ?_
    refine WO_p (PS_sub_u8n rfl rfl (by omega) (by omega)) ?_
    refine WO_p (PS_nilCheck rfl) ?_
    refine WO_p (PS_indexA Hvac.runUnderlying63 Hvac.sizeOf26 rfl rfl (by omega) (by omega)) ?_
    refine WO_load (.int _ _) Hvac.isAgg26 rfl (Hb.h (by repeat (first | assumption | exact Hb.newY _ _ | refine Hb.alloc ?_ | refine Hb.drew ?_ | refine Hb.ext (by assumption) ?_ | exact Hb.setSameL (by first | omega | (simp only [size_alloc, size_setB, size_drew]; omega)) | exact Hb.setSame (by assumption) | refine Hb.set (by first | omega | (simp only [size_alloc, size_setB, size_drew]; omega)) ?_ ))) (Ce.h (by first | assumption | exact ⟨rfl⟩)) ?_
    refine WO_p (PS_move_int rfl) ?_
    refine WO_call Hvac.call337 (by rfl) (Ret.mono (div64_ex _ _ _ _ (by omega) (by omega) ⟨by omega, hy.2⟩) ?_)
    rintro _ w3 ⟨hE3, q, r3, ok, rfl, hq, hr3, hok, hno⟩
    have hB3 := Hb.ext hE3 hB2
    have hk3 := hk2.extR hE3
    have hok2 : ok = true := by cases ok; (· exfalso; have := hno rfl; omega); rfl
    have hok3 := hok hok2
    refine WO_p (PS_move_tuple rfl) ?_
    refine WO_p (PS_extract_int rfl rfl) ?_
    refine WO_p (PS_extract_int rfl rfl) ?_
    refine WO_p (PS_extract_bool rfl rfl) ?_
    refine WO_p (PS_assign_int rfl) ?_
    refine WO_p (PS_assign_int rfl) ?_
    refine WO_p (PS_assign_bool rfl) ?_
    refine WO_nil ?_
    refine thn_normal ?_
    refine W_seq ?_
    refine W_region rfl ?_
    refine WO_p (PS_move_ptr rfl) ?_
    refine WO_p (PS_move_int rfl) ?_
    refine WO_p (PS_sub_u8n rfl rfl (by omega) (by omega)) ?_
    refine WO_p (PS_move_int rfl) ?_
    refine WO_p (PS_nilCheck rfl) ?_
    refine WO_p (PS_indexA Hvac.runUnderlying63 Hvac.sizeOf26 rfl rfl (by omega) (by omega)) ?_
    refine WO_store1 Hvac.sizeOf26 rfl (v := .int _ _) rfl hB3.h rfl (by rw [size_ic]; omega) rfl ?_
    rw [show ((m:Int) - 1).toNat = m - 1 by omega, ic_set]
    refine WO_nil ?_
    refine thn_normal ?_
    refine W_region rfl ?_
    refine WO_p (PS_move_int rfl) ?_
    refine WO_p (PS_assign_int rfl) ?_
    refine WO_nil ?_
    refine inBlk_normal ?_
    refine thn_normal ?_
    refine W_region rfl ?_
    refine WO_p (PS_move_int rfl) ?_
    refine WO_p (PS_sub_u8n rfl rfl (by omega) (by omega)) ?_
    refine WO_p (PS_assign_int rfl) ?_
    refine WO_nil ?_
    refine thn_normal ?_
    exact ⟨m - 1, by omega, _, L2.set (m - 1) _, by omega, ⟨hr3.1, hok3.1⟩, by rw [List.length_set]; exact hl2, hL2.set _ hq, sh_step (by omega) (by omega) (by omega) hlv (by rw [hok3.2, hou (m - 1) (by omega)]), fun k hk => by rw [getD_setI, if_neg (by omega)]; exact hou k (by omega), ⟨rfl, rfl, rfl, congrArg (Value.int .u8) (by omega), trivial⟩, Hb.setSame hB3, hk3.setB (fun _ => rfl) _⟩
  · have hb2p := hb2.h; try simp only [al_ete, al_dfn, Bool.not_eq_true', Bool.not_eq_false', al_ne, Bool.not_not, al_nn] at hb2p
    refine W_exit ?_
    refine thn_exit ?_
    refine thn_exit ?_
    refine inBlk_exit ?_
    refine thn_normal ?_
    refine W_seq ?_
    refine W_region rfl ?_
    refine WO_p (PS_move_int rfl) ?_
    refine WO_p (PS_assign_int rfl) ?_
    refine WO_nil ?_
    refine thn_normal ?_
    refine W_ret ?_
    refine bodyQ_ret1 Hvac.results378 rfl (.int _ _) rfl ?_
    exact ⟨r, rfl, hr, L2, hl2.trans hl.symm, hL2, hB2, hk2, by rw [show m = 0 by omega] at hlv; exact hlv, fun k hk => hou k (by omega)⟩

set_option maxRecDepth 10000 in
theorem putBack_ex (bu bvY n cu cv : Nat) (ou ov : Nat) (Tu Tv : TypeId) (U Y : List Int) (w : World) (hU : Hb w bu (.cells (ic .u64 U) Tu (0, 0))) (hV : Hb w bvY (.cells (ic .u64 Y) Tv (0, 0))) (hne : bu ≠ bvY) (hUL : UL U) (hYL : UL Y) (hun : ou + n + 1 ≤ U.length) (hvn : ov + n ≤ Y.length) (hn : n ≤ 1000) : Ret Hvac.prog 384 #[.slice (some ⟨bu, ou, none⟩) (n + 1) cu, .slice (some ⟨bvY, ov, none⟩) n cv] w fun u w' => u = .tuple #[] ∧ TurnX bu Tu U w w' fun L' => (∃ k : Int, lvr L' ou (n + 1) + k * 18446744073709551616 ^ (n + 1) = lvr U ou (n + 1) + lvr Y ov n) ∧ (∀ k, k < ou ∨ ou + n < k → L'.getD k 0 = U.getD k 0) := by
  refine Ret_of_W Hvac.func384 rfl rfl ?_
  refine W_seq ?_
  refine W_region rfl ?_
  refine WO_p (PS_assign_int rfl) ?_
  refine WO_nil ?_
  refine thn_normal ?_
  refine W_seq ?_
  refine W_seq ?_
  refine W_region rfl ?_
  refine WO_p (PS_move_slice rfl) ?_
  refine WO_p (PS_lenS Hvac.runUnderlying280 rfl) ?_
  refine WO_p (PS_move_int rfl) ?_
  refine WO_nil ?_
  refine thn_normal ?_
  refine W_block ?_
  refine W_loopN (fun m ρ w' => ∃ (i : Nat) (c : Int) (L : List Int), i + m = n ∧ (0 ≤ c ∧ c ≤ 1) ∧ L.length = U.length ∧ UL L ∧ lvr U ou i + lvr Y ov i = lvr L ou i + c * 18446744073709551616 ^ i ∧ (∀ k, k < ou ∨ ou + i ≤ k → L.getD k 0 = U.getD k 0) ∧ Fr [(0, .slice (some ⟨bu, ou, none⟩) (n + 1) cu), (1, .slice (some ⟨bvY, ov, none⟩) n cv), (4, .int .u64 c), (9, .slice (some ⟨bvY, ov, none⟩) n cv), (10, .int .i64 n), (11, .int .i64 i)] ρ ∧ Hb w' bu (.cells (ic .u64 L) Tu (0, 0)) ∧ Hb w' bvY (.cells (ic .u64 Y) Tv (0, 0)) ∧ KeepO (fun x => x = bu) w w') n ?_ ?_
  · exact ⟨0, 0, U, by omega, by omega, rfl, hUL, by simp [lvr], fun _ _ => rfl, ⟨rfl, rfl, rfl, rfl, rfl, rfl, trivial⟩, hU, hV, KeepO.refl _ _⟩
  intro m ρ w2 hI
  obtain ⟨i, c, L, him, hc, hl, hL, hlv, hou, hF, hB2, hV2, hk2⟩ := hI
  refine W_env _ hF ?_
  refine W_seq ?_
  refine W_region rfl ?_
  refine WO_p (PS_lss rfl rfl) ?_
  refine WO_nil ?_
  refine thn_normal ?_
  refine W_seq ?_
  refine W_if rfl (fun hb2 => ?_) (fun hb2 => ?_)
  · have hb2p := hb2.h; try simp only [al_ete, al_dfn, Bool.not_eq_true', Bool.not_eq_false', al_ne, Bool.not_not, al_nn] at hb2p
    have hce : Ce (ic .u64 Y) (ov + ((i:Int)).toNat * 1) (.int .u64 (Y.getD (ov + i) 0)) := by rw [show ((i:Int)).toNat = i from Int.toNat_natCast i]; exact ce_icO (by omega)
    have hy2 := hYL.get (ov + i)
    have hce2 : Ce (ic .u64 L) (ou + ((i:Int)).toNat * 1) (.int .u64 (L.getD (ou + i) 0)) := by rw [show ((i:Int)).toNat = i from Int.toNat_natCast i]; exact ce_icO (by omega)
    have hx2 := hL.get (ou + i)
    refine W_skip ?_
    refine thn_normal ?_
    refine W_seq ?_
    refine W_block ?_
    refine W_seq ?_
    refine W_region rfl ?_
    refine WO_p (PS_move_int rfl) ?_
    refine WO_p (PS_indexS Hvac.runUnderlying280 Hvac.sizeOf26 rfl rfl (by omega) (by omega)) ?_
    refine WO_load (.int _ _) Hvac.isAgg26 rfl (Hb.h (by repeat (first | assumption | exact Hb.newY _ _ | refine Hb.alloc ?_ | refine Hb.drew ?_ | refine Hb.ext (by assumption) ?_ | exact Hb.setSameL (by first | omega | (simp only [size_alloc, size_setB, size_drew]; omega)) | exact Hb.setSame (by assumption) | refine Hb.set (by first | omega | (simp only [size_alloc, size_setB, size_drew]; omega)) ?_ ))) (Ce.h (by first | assumption | exact ⟨rfl⟩)) ?_
    refine WO_p (PS_assign_int rfl) ?_
    refine WO_p (PS_assign_int rfl) ?_
    refine WO_nil ?_
    refine thn_normal ?_
    refine W_seq ?_
    refine W_region rfl ?_
    refine WO_p (PS_move_slice rfl) ?_
    refine WO_p (PS_move_int rfl) ?_
    refine WO_p (PS_indexS Hvac.runUnderlying280 Hvac.sizeOf26 rfl rfl (by omega) (by omega)) ?_
    refine WO_load (.int _ _) Hvac.isAgg26 rfl (Hb.h (by repeat (first | assumption | exact Hb.newY _ _ | refine Hb.alloc ?_ | refine Hb.drew ?_ | refine Hb.ext (by assumption) ?_ | exact Hb.setSameL (by first | omega | (simp only [size_alloc, size_setB, size_drew]; omega)) | exact Hb.setSame (by assumption) | refine Hb.set (by first | omega | (simp only [size_alloc, size_setB, size_drew]; omega)) ?_ ))) (Ce.h (by first | assumption | exact ⟨rfl⟩)) ?_
    refine WO_p (PS_move_int rfl) ?_
    refine WO_p (PS_move_int rfl) ?_
    refine WO_call Hvac.call144 (by rfl) (Ret.mono (add64_ex _ _ _ _ (by omega) (by omega) (by omega)) ?_)
    rintro _ w144_2 ⟨s144_2, k144_2, rfl, hs144_2, hr144_2, hk144_2, hw144_2⟩
    obtain rfl := hw144_2.symm
    refine WO_p (PS_move_tuple rfl) ?_
    refine WO_p (PS_extract_int rfl rfl) ?_
    refine WO_p (PS_extract_int rfl rfl) ?_
    refine WO_p (PS_assign_int rfl) ?_
    refine WO_p (PS_assign_int rfl) ?_
    refine WO_nil ?_
    refine thn_normal ?_
    refine W_seq ?_
    refine W_region rfl ?_
    refine WO_p (PS_move_slice rfl) ?_
    refine WO_p (PS_move_int rfl) ?_
    refine WO_p (PS_move_int rfl) ?_
    refine WO_p (PS_indexS Hvac.runUnderlying280 Hvac.sizeOf26 rfl rfl (by omega) (by omega)) ?_
    refine WO_store1 Hvac.sizeOf26 rfl (v := .int _ _) rfl hB2.h rfl (by rw [size_ic]; omega) rfl ?_
    rw [show ((i:Int)).toNat = i from Int.toNat_natCast i, ic_setO]
    refine WO_nil ?_
    refine thn_normal ?_
    refine W_region rfl ?_
    refine WO_p (PS_move_int rfl) ?_
    refine WO_p (PS_assign_int rfl) ?_
    refine WO_nil ?_
    refine inBlk_normal ?_
    refine thn_normal ?_
    refine W_region rfl ?_
    refine WO_p (PS_add_i64n rfl rfl (by omega) (by omega)) ?_
    refine WO_p (PS_move_int rfl) ?_
    refine WO_nil ?_
    refine thn_normal ?_
    exact ⟨m - 1, by omega, i + 1, _, L.set (ou + i) _, by omega, by assumption, by rw [List.length_set]; exact hl, hL.set _ (by assumption), pb_step (by omega) (hou _ (Or.inr (Nat.le_refl _))) hlv (by omega), fun k hk => by rw [getD_setI, if_neg (by omega)]; exact hou k (by omega), ⟨rfl, rfl, rfl, rfl, rfl, congrArg (Value.int .i64) (by omega), trivial⟩, Hb.setSame hB2, Hb.set hne hV2, hk2.setB (fun _ => rfl) _⟩
  · have hb2p := hb2.h; try simp only [al_ete, al_dfn, Bool.not_eq_true', Bool.not_eq_false', al_ne, Bool.not_not, al_nn] at hb2p
    have hce2 : Ce (ic .u64 L) (ou + ((n:Int)).toNat * 1) (.int .u64 (L.getD (ou + n) 0)) := by rw [show ((n:Int)).toNat = n from Int.toNat_natCast n]; exact ce_icO (by omega)
    have hx2 := hL.get (ou + n)
    refine W_exit ?_
    refine thn_exit ?_
    refine thn_exit ?_
    refine inBlk_exit ?_
    refine thn_normal ?_
    refine W_region rfl ?_
    refine WO_p (PS_move_slice rfl) ?_
    refine WO_p (PS_move_slice rfl) ?_
    refine WO_p (PS_lenS Hvac.runUnderlying280 rfl) ?_
    refine WO_p (PS_indexS Hvac.runUnderlying280 Hvac.sizeOf26 rfl rfl (by omega) (by omega)) ?_
    refine WO_load (.int _ _) Hvac.isAgg26 rfl (Hb.h (by repeat (first | assumption | exact Hb.newY _ _ | refine Hb.alloc ?_ | refine Hb.drew ?_ | refine Hb.ext (by assumption) ?_ | exact Hb.setSameL (by first | omega | (simp only [size_alloc, size_setB, size_drew]; omega)) | exact Hb.setSame (by assumption) | refine Hb.set (by first | omega | (simp only [size_alloc, size_setB, size_drew]; omega)) ?_ ))) (Ce.h (by first | assumption | exact ⟨rfl⟩)) ?_
    refine WO_p (PS_move_int rfl) ?_
    refine WO_p (PS_add_u64w rfl rfl) ?_
    refine WO_p (PS_indexS Hvac.runUnderlying280 Hvac.sizeOf26 rfl rfl (by omega) (by omega)) ?_
    refine WO_store1 Hvac.sizeOf26 rfl (v := .int _ _) rfl hB2.h rfl (by rw [size_ic]; omega) rfl ?_
    rw [show ((n:Int)).toNat = n from Int.toNat_natCast n, ic_setO]
    refine WO_nil ?_
    first | refine bodyQ_ret0 Hvac.results384 ?_ | refine bodyQ_end0 Hvac.results384 ?_
    rw [show i = n by omega] at hlv
    exact ⟨rfl, L.set (ou + n) _, by rw [List.length_set]; exact hl, hL.set _ (by omega), Hb.setSame hB2, hk2.setB (fun _ => rfl) _, ⟨(L.getD (ou + n) 0 + c) / 18446744073709551616, by
      rw [lvr_set_last (by omega), lvr_succ, hou (ou + n) (by omega), Int.pow_succ]
      have e := Int.mul_ediv_add_emod (U.getD (ou + n) 0 + c) 18446744073709551616
      have e2 : (U.getD (ou + n) 0 + c) % 18446744073709551616 * 18446744073709551616 ^ n + (U.getD (ou + n) 0 + c) / 18446744073709551616 * (18446744073709551616 ^ n * 18446744073709551616) = (U.getD (ou + n) 0 + c) * 18446744073709551616 ^ n := by
        conv => rhs; rw [← e]
        rw [Int.add_mul, Int.mul_comm (18446744073709551616 ^ n) 18446744073709551616, ← Int.mul_assoc, Int.mul_comm _ 18446744073709551616]; omega
      rw [Int.add_mul] at e2
      omega⟩, fun k hk => by rw [getD_setI, if_neg (by omega)]; exact hou k (by omega)⟩

set_option maxRecDepth 10000 in
theorem takeTimes_ex (bu bvY n cu cv : Nat) (ou ov : Nat) (Tu Tv : TypeId) (U Y : List Int) (q : Int) (w : World) (hU : Hb w bu (.cells (ic .u64 U) Tu (0, 0))) (hV : Hb w bvY (.cells (ic .u64 Y) Tv (0, 0))) (hne : bu ≠ bvY) (hUL : UL U) (hYL : UL Y) (hun : ou + n + 1 ≤ U.length) (hvn : ov + n ≤ Y.length) (hn : n ≤ 1000) (hq : 0 ≤ q ∧ q ≤ 18446744073709551615) : Ret Hvac.prog 383 #[.slice (some ⟨bu, ou, none⟩) (n + 1) cu, .slice (some ⟨bvY, ov, none⟩) n cv, .int .u64 q] w fun u w' => ∃ z, u = .bool z ∧ TurnX bu Tu U w w' fun L' => lvr L' ou (n + 1) = lvr U ou (n + 1) - q * lvr Y ov n + (if z = true then 18446744073709551616 ^ n * 18446744073709551616 else 0) ∧ (∀ k, k < ou ∨ ou + n < k → L'.getD k 0 = U.getD k 0) := by
  refine Ret_of_W Hvac.func383 rfl rfl ?_
  refine W_seq ?_
  refine W_region rfl ?_
  refine WO_p (PS_assign_bool rfl) ?_
  refine WO_nil ?_
  refine thn_normal ?_
  refine W_seq ?_
  refine W_region rfl ?_
  refine WO_p (PS_assign_int rfl) ?_
  refine WO_nil ?_
  refine thn_normal ?_
  refine W_seq ?_
  refine W_region rfl ?_
  refine WO_p (PS_assign_int rfl) ?_
  refine WO_nil ?_
  refine thn_normal ?_
  refine W_seq ?_
  refine W_seq ?_
  refine W_region rfl ?_
  refine WO_p (PS_move_slice rfl) ?_
  refine WO_p (PS_lenS Hvac.runUnderlying280 rfl) ?_
  refine WO_p (PS_move_int rfl) ?_
  refine WO_nil ?_
  refine thn_normal ?_
  refine W_block ?_
  refine W_loopN (fun m ρ w' => ∃ (i : Nat) (c d : Int) (L : List Int), i + m = n ∧ (0 ≤ c ∧ c ≤ 18446744073709551615) ∧ (0 ≤ d ∧ d ≤ 1) ∧ L.length = U.length ∧ UL L ∧ lvr U ou i - q * lvr Y ov i = lvr L ou i - (c + d) * 18446744073709551616 ^ i ∧ (∀ k, k < ou ∨ ou + i ≤ k → L.getD k 0 = U.getD k 0) ∧ Fr [(0, .slice (some ⟨bu, ou, none⟩) (n + 1) cu), (1, .slice (some ⟨bvY, ov, none⟩) n cv), (2, .int .u64 q), (7, .int .u64 c), (8, .int .u64 d), (17, .slice (some ⟨bvY, ov, none⟩) n cv), (18, .int .i64 n), (19, .int .i64 i)] ρ ∧ Hb w' bu (.cells (ic .u64 L) Tu (0, 0)) ∧ Hb w' bvY (.cells (ic .u64 Y) Tv (0, 0)) ∧ KeepO (fun x => x = bu) w w') n ?_ ?_
  · exact ⟨0, 0, 0, U, by omega, by omega, by omega, rfl, hUL, by simp [lvr], fun _ _ => rfl, ⟨rfl, rfl, rfl, rfl, rfl, rfl, rfl, rfl, trivial⟩, hU, hV, KeepO.refl _ _⟩
  intro m ρ w2 hI
  obtain ⟨i, c, d, L, him, hc, hd, hl, hL, hlv, hou, hF, hB2, hV2, hk2⟩ := hI
  refine W_env _ hF ?_
  refine W_seq ?_
  refine W_region rfl ?_
  refine WO_p (PS_lss rfl rfl) ?_
  refine WO_nil ?_
  refine thn_normal ?_
  refine W_seq ?_
  refine W_if rfl (fun hb2 => ?_) (fun hb2 => ?_)
  · have hb2p := hb2.h; try simp only [al_ete, al_dfn, Bool.not_eq_true', Bool.not_eq_false', al_ne, Bool.not_not, al_nn] at hb2p
    have hce : Ce (ic .u64 Y) (ov + ((i:Int)).toNat * 1) (.int .u64 (Y.getD (ov + i) 0)) := by rw [show ((i:Int)).toNat = i from Int.toNat_natCast i]; exact ce_icO (by omega)
    have hy2 := hYL.get (ov + i)
    have hce2 : Ce (ic .u64 L) (ou + ((i:Int)).toNat * 1) (.int .u64 (L.getD (ou + i) 0)) := by rw [show ((i:Int)).toNat = i from Int.toNat_natCast i]; exact ce_icO (by omega)
    have hx2 := hL.get (ou + i)
    refine W_skip ?_
    refine thn_normal ?_
    refine W_seq ?_
    refine W_block ?_
    refine W_seq ?_
    refine W_region rfl ?_
    refine WO_p (PS_move_int rfl) ?_
    refine WO_p (PS_indexS Hvac.runUnderlying280 Hvac.sizeOf26 rfl rfl (by omega) (by omega)) ?_
    refine WO_load (.int _ _) Hvac.isAgg26 rfl (Hb.h (by repeat (first | assumption | exact Hb.newY _ _ | refine Hb.alloc ?_ | refine Hb.drew ?_ | refine Hb.ext (by assumption) ?_ | exact Hb.setSameL (by first | omega | (simp only [size_alloc, size_setB, size_drew]; omega)) | exact Hb.setSame (by assumption) | refine Hb.set (by first | omega | (simp only [size_alloc, size_setB, size_drew]; omega)) ?_ ))) (Ce.h (by first | assumption | exact ⟨rfl⟩)) ?_
    refine WO_p (PS_assign_int rfl) ?_
    refine WO_p (PS_assign_int rfl) ?_
    refine WO_nil ?_
    refine thn_normal ?_
    refine W_seq ?_
    refine W_region rfl ?_
    refine WO_p (PS_move_int rfl) ?_
    refine WO_p (PS_move_int rfl) ?_
    refine WO_p (PS_move_int rfl) ?_
    refine WO_call Hvac.call368 (by rfl) (Ret.mono (mulAdd_ex _ _ _ _ _ (by omega) (by omega) (by omega) (by omega)) ?_)
    rintro _ w3 ⟨hE3, lo, hi, rfl, hlo, hhi, hmu⟩
    have hB3 := Hb.ext hE3 hB2
    have hV3 := Hb.ext hE3 hV2
    have hk3 := hk2.extR hE3
    refine WO_p (PS_move_tuple rfl) ?_
    refine WO_p (PS_extract_int rfl rfl) ?_
    refine WO_p (PS_extract_int rfl rfl) ?_
    refine WO_p (PS_assign_int rfl) ?_
    refine WO_p (PS_assign_int rfl) ?_
    refine WO_nil ?_
    refine thn_normal ?_
    refine W_seq ?_
    refine W_region rfl ?_
    refine WO_p (PS_move_slice rfl) ?_
    refine WO_p (PS_move_int rfl) ?_
    refine WO_p (PS_indexS Hvac.runUnderlying280 Hvac.sizeOf26 rfl rfl (by omega) (by omega)) ?_
    refine WO_load (.int _ _) Hvac.isAgg26 rfl (Hb.h (by repeat (first | assumption | exact Hb.newY _ _ | refine Hb.alloc ?_ | refine Hb.drew ?_ | refine Hb.ext (by assumption) ?_ | exact Hb.setSameL (by first | omega | (simp only [size_alloc, size_setB, size_drew]; omega)) | exact Hb.setSame (by assumption) | refine Hb.set (by first | omega | (simp only [size_alloc, size_setB, size_drew]; omega)) ?_ ))) (Ce.h (by first | assumption | exact ⟨rfl⟩)) ?_
    refine WO_p (PS_move_int rfl) ?_
    refine WO_p (PS_move_int rfl) ?_
    refine WO_call Hvac.call217 (by rfl) (Ret.mono (sub64_exx _ _ _ _ (by omega) (by omega) (by omega)) ?_)
    rintro _ w217_3 ⟨s217_3, k217_3, rfl, hr217_3, hk217_3, hs217_3, hw217_3⟩
    obtain rfl := hw217_3.symm
    refine WO_p (PS_move_tuple rfl) ?_
    refine WO_p (PS_extract_int rfl rfl) ?_
    refine WO_p (PS_extract_int rfl rfl) ?_
    refine WO_p (PS_assign_int rfl) ?_
    refine WO_p (PS_assign_int rfl) ?_
    refine WO_nil ?_
    refine thn_normal ?_
    refine W_seq ?_
    refine W_region rfl ?_
    refine WO_p (PS_move_slice rfl) ?_
    refine WO_p (PS_move_int rfl) ?_
    refine WO_p (PS_move_int rfl) ?_
    refine WO_p (PS_indexS Hvac.runUnderlying280 Hvac.sizeOf26 rfl rfl (by omega) (by omega)) ?_
    refine WO_store1 Hvac.sizeOf26 rfl (v := .int _ _) rfl hB3.h rfl (by rw [size_ic]; omega) rfl ?_
    rw [show ((i:Int)).toNat = i from Int.toNat_natCast i, ic_setO]
    refine WO_nil ?_
    refine thn_normal ?_
    refine W_seq ?_
    refine W_region rfl ?_
    refine WO_p (PS_move_int rfl) ?_
    refine WO_p (PS_assign_int rfl) ?_
    refine WO_nil ?_
    refine thn_normal ?_
    refine W_region rfl ?_
    refine WO_p (PS_move_int rfl) ?_
    refine WO_p (PS_assign_int rfl) ?_
    refine WO_nil ?_
    refine inBlk_normal ?_
    refine thn_normal ?_
    refine W_region rfl ?_
    refine WO_p (PS_add_i64n rfl rfl (by omega) (by omega)) ?_
    refine WO_p (PS_move_int rfl) ?_
    refine WO_nil ?_
    refine thn_normal ?_
    exact ⟨m - 1, by omega, i + 1, _, _, L.set (ou + i) _, by omega, hhi, by assumption, by rw [List.length_set]; exact hl, hL.set _ (by assumption), tt_step (by omega) (hou _ (Or.inr (Nat.le_refl _))) hlv (by rw [hmu]; omega) (by assumption), fun k hk => by rw [getD_setI, if_neg (by omega)]; exact hou k (by omega), ⟨rfl, rfl, rfl, rfl, rfl, rfl, rfl, congrArg (Value.int .i64) (by omega), trivial⟩, Hb.setSame hB3, Hb.set hne hV3, hk3.setB (fun _ => rfl) _⟩
  · have hb2p := hb2.h; try simp only [al_ete, al_dfn, Bool.not_eq_true', Bool.not_eq_false', al_ne, Bool.not_not, al_nn] at hb2p
    have hce2 : Ce (ic .u64 L) (ou + ((n:Int)).toNat * 1) (.int .u64 (L.getD (ou + n) 0)) := by rw [show ((n:Int)).toNat = n from Int.toNat_natCast n]; exact ce_icO (by omega)
    have hx2 := hL.get (ou + n)
    refine W_exit ?_
    refine thn_exit ?_
    refine thn_exit ?_
    refine inBlk_exit ?_
    refine thn_normal ?_
    refine W_seq ?_
    refine W_region rfl ?_
    refine WO_p (PS_move_slice rfl) ?_
    refine WO_p (PS_move_slice rfl) ?_
    refine WO_p (PS_lenS Hvac.runUnderlying280 rfl) ?_
    refine WO_p (PS_indexS Hvac.runUnderlying280 Hvac.sizeOf26 rfl rfl (by omega) (by omega)) ?_
    refine WO_load (.int _ _) Hvac.isAgg26 rfl (Hb.h (by repeat (first | assumption | exact Hb.newY _ _ | refine Hb.alloc ?_ | refine Hb.drew ?_ | refine Hb.ext (by assumption) ?_ | exact Hb.setSameL (by first | omega | (simp only [size_alloc, size_setB, size_drew]; omega)) | exact Hb.setSame (by assumption) | refine Hb.set (by first | omega | (simp only [size_alloc, size_setB, size_drew]; omega)) ?_ ))) (Ce.h (by first | assumption | exact ⟨rfl⟩)) ?_
    refine WO_p (PS_move_int rfl) ?_
    refine WO_p (PS_move_int rfl) ?_
    refine WO_call Hvac.call217 (by rfl) (Ret.mono (sub64_exx _ _ _ _ (by omega) (by omega) (by omega)) ?_)
    rintro _ w217_4 ⟨s217_4, k217_4, rfl, hr217_4, hk217_4, hs217_4, hw217_4⟩
    obtain rfl := hw217_4.symm
    refine WO_p (PS_move_tuple rfl) ?_
    refine WO_p (PS_extract_int rfl rfl) ?_
    refine WO_p (PS_extract_int rfl rfl) ?_
    refine WO_p (PS_assign_int rfl) ?_
    refine WO_p (PS_assign_int rfl) ?_
    refine WO_nil ?_
    refine thn_normal ?_
    refine W_seq ?_
    refine W_region rfl ?_
    refine WO_p (PS_move_slice rfl) ?_
    refine WO_p (PS_move_slice rfl) ?_
    refine WO_p (PS_lenS Hvac.runUnderlying280 rfl) ?_
    refine WO_p (PS_move_int rfl) ?_
    refine WO_p (PS_indexS Hvac.runUnderlying280 Hvac.sizeOf26 rfl rfl (by omega) (by omega)) ?_
    refine WO_store1 Hvac.sizeOf26 rfl (v := .int _ _) rfl hB2.h rfl (by rw [size_ic]; omega) rfl ?_
    rw [show ((n:Int)).toNat = n from Int.toNat_natCast n, ic_setO]
    refine WO_nil ?_
    refine thn_normal ?_
    refine W_seq ?_
    refine W_region rfl ?_
    refine WO_p (PS_move_int rfl) ?_
    refine WO_p (PS_neq rfl rfl) ?_
    refine WO_p (PS_assign_bool rfl) ?_
    refine WO_nil ?_
    refine thn_normal ?_
    refine W_ret ?_
    refine bodyQ_ret1 Hvac.results383 rfl (.bool _) rfl ?_
    rw [show i = n by omega] at hlv
    refine ⟨_, rfl, L.set (ou + n) _, by rw [List.length_set]; exact hl, hL.set _ (by assumption), Hb.setSame hB2, hk2.setB (fun _ => rfl) _, ?_, fun k hk => by rw [getD_setI, if_neg (by omega)]; exact hou k (by omega)⟩
    exact tt_fin (by omega) (hou _ (by omega)) hlv (by assumption) (by assumption)

set_option maxRecDepth 10000 in
theorem trial_ex (h m l t x : Int) (w : World) (hh : 0 ≤ h ∧ h ≤ 18446744073709551615) (hm : 0 ≤ m ∧ m ≤ 18446744073709551615) (hl : 0 ≤ l ∧ l ≤ 18446744073709551615) (ht : 0 < t ∧ t ≤ 18446744073709551615) (hx : 0 ≤ x ∧ x ≤ 18446744073709551615) (hht : h ≤ t) : Ret Hvac.prog 382 #[.int .u64 h, .int .u64 m, .int .u64 l, .int .u64 t, .int .u64 x] w fun u w' => Ext w w' ∧ ∃ q f : Int, u = .tuple #[.int .u64 q, .int .u8 f] ∧ (0 ≤ q ∧ q ≤ 18446744073709551615) ∧ (0 ≤ f ∧ f ≤ 255) ∧ q * (t * 18446744073709551616 + x) ≤ (h * 18446744073709551616 + m) * 18446744073709551616 + l ∧ (q = 18446744073709551615 ∨ (h * 18446744073709551616 + m) * 18446744073709551616 + l < (q + 1) * (t * 18446744073709551616 + x)) := by
  refine Ret_of_W Hvac.func382 rfl rfl ?_
  refine W_seq ?_
  refine W_region rfl ?_
  refine WO_p (PS_assign_int rfl) ?_
  refine WO_p (PS_assign_int rfl) ?_
  refine WO_nil ?_
  refine thn_normal ?_
  refine W_seq ?_
  refine W_region rfl ?_
  refine WO_p (PS_move_int rfl) ?_
  refine WO_p (PS_move_int rfl) ?_
  refine WO_p (PS_move_int rfl) ?_
  refine WO_call Hvac.call337 (by rfl) (Ret.mono (div64_ex _ _ _ _ hh hm (by omega)) ?_)
  rintro _ w1 ⟨hE1, q1, r1, ok1, rfl, hq1, hr1, hok1, hno1⟩
  refine WO_p (PS_move_tuple rfl) ?_
  refine WO_p (PS_extract_int rfl rfl) ?_
  refine WO_p (PS_extract_int rfl rfl) ?_
  refine WO_p (PS_extract_bool rfl rfl) ?_
  refine WO_p (PS_assign_int rfl) ?_
  refine WO_p (PS_assign_int rfl) ?_
  refine WO_p (PS_assign_bool rfl) ?_
  refine WO_nil ?_
  refine thn_normal ?_
  refine W_seq ?_
  refine W_region rfl ?_
  refine WO_p (PS_assign_int rfl) ?_
  refine WO_nil ?_
  refine thn_normal ?_
  refine W_seq ?_
  refine W_seq ?_
  refine W_region rfl ?_
  refine WO_p (PS_move_bool rfl) ?_
  refine WO_p (PS_not rfl) ?_
  refine WO_nil ?_
  refine thn_normal ?_
  refine W_if rfl (fun hb4 => ?_) (fun hb4 => ?_)
  · have hb4p := hb4.h; try simp only [al_ete, al_dfn, Bool.not_eq_true', Bool.not_eq_false', al_ne, Bool.not_not, al_nn] at hb4p
    have hbok := hb4p
    refine W_seq ?_
    refine W_region rfl ?_
    refine WO_p (PS_assign_int rfl) ?_
    refine WO_nil ?_
    refine thn_normal ?_
    refine W_region rfl ?_
    refine WO_p (PS_move_int rfl) ?_
    refine WO_p (PS_move_int rfl) ?_
    refine WO_call Hvac.call144 (by rfl) (Ret.mono (add64_ex _ _ _ _ (by omega) (by omega) (by omega)) ?_)
    rintro _ w144_4 ⟨s144_4, k144_4, rfl, hs144_4, hr144_4, hk144_4, hw144_4⟩
    obtain rfl := hw144_4.symm
    refine WO_p (PS_move_tuple rfl) ?_
    refine WO_p (PS_extract_int rfl rfl) ?_
    refine WO_p (PS_extract_int rfl rfl) ?_
    refine WO_p (PS_assign_int rfl) ?_
    refine WO_p (PS_assign_int rfl) ?_
    refine WO_nil ?_
    refine thn_normal ?_
    refine W_seq ?_
    refine W_block ?_
    refine W_loopN (fun k ρ w' => ∃ q f r ov : Int, (0 ≤ q ∧ q ≤ 18446744073709551615) ∧ (0 ≤ f ∧ f ≤ 255) ∧ (0 ≤ r ∧ r ≤ 18446744073709551615) ∧ (0 ≤ ov ∧ ov ≤ 1) ∧ (ov = 0 → 18446744073709551616 - r ≤ k) ∧ q * t + (r + ov * 18446744073709551616) = h * 18446744073709551616 + m ∧ (q = 18446744073709551615 ∨ (h * 18446744073709551616 + m) * 18446744073709551616 + l < (q + 1) * (t * 18446744073709551616 + x)) ∧ Fr [(2, .int .u64 l), (3, .int .u64 t), (4, .int .u64 x), (10, .int .u64 q), (11, .int .u8 f), (12, .int .u64 r), (14, .int .u64 ov)] ρ ∧ Ext w w') 18446744073709551616 ?_ ?_
    · first
      | (have hno2 := hno1 (by simpa using hbok)
         exact ⟨_, _, _, _, by omega, by omega, by omega, by omega, fun _ => by omega, by omega, Or.inl rfl, ⟨rfl, rfl, rfl, rfl, rfl, rfl, rfl, trivial⟩, hE1⟩)
      | (have hok2 := hok1 (by simpa using hbok)
         exact ⟨_, _, _, _, by omega, by omega, by omega, by omega, fun _ => by omega, by rw [← hok2.2]; omega, Or.inr (tri_init2 hok2.2 hok2.1 (by omega) (by omega) (by omega)), ⟨rfl, rfl, rfl, rfl, rfl, rfl, rfl, trivial⟩, hE1⟩)
    intro k ρ w2 hI
    obtain ⟨q, f, r, ov, hq, hf, hr, hov1, hov, he, hT, hF, hE2⟩ := hI
    refine W_env _ hF ?_
    refine W_seq ?_
    refine W_seq ?_
    refine W_region rfl ?_
    refine WO_p (PS_move_int rfl) ?_
    refine WO_p (PS_eql rfl rfl) ?_
    refine WO_nil ?_
    refine thn_normal ?_
    refine W_if rfl (fun hb7 => ?_) (fun hb7 => ?_)
    · have hb7p := hb7.h; try simp only [al_ete, al_dfn, Bool.not_eq_true', Bool.not_eq_false', al_ne, Bool.not_not, al_nn] at hb7p
      have hov0 := hb7p
      refine W_skip ?_
      refine thn_normal ?_
      refine W_block ?_
      refine W_seq ?_
      refine W_region rfl ?_
      refine WO_p (PS_move_int rfl) ?_
      refine WO_p (PS_move_int rfl) ?_
      refine WO_call Hvac.call143 (by rfl) (Ret.mono (mul64_ex _ _ _ (by omega) (by omega)) ?_)
      rintro _ w7 ⟨hh7, ll7, rfl, hm7, hh7b, hl7b, hw7⟩
      obtain rfl := hw7.symm
      refine WO_p (PS_move_tuple rfl) ?_
      refine WO_p (PS_extract_int rfl rfl) ?_
      refine WO_p (PS_extract_int rfl rfl) ?_
      refine WO_p (PS_assign_int rfl) ?_
      refine WO_p (PS_assign_int rfl) ?_
      refine WO_nil ?_
      refine thn_normal ?_
      refine W_seq ?_
      refine W_seq ?_
      refine W_region rfl ?_
      refine WO_p (PS_move_int rfl) ?_
      refine WO_p (PS_move_int rfl) ?_
      refine WO_p (PS_lss rfl rfl) ?_
      refine WO_p (PS_move_bool rfl) ?_
      refine WO_if (t := 44) rfl (fun hb10 => ?_) (fun hb10 => ?_)
      · have hb10p := hb10.h; try simp only [al_ete, al_dfn, Bool.not_eq_true', Bool.not_eq_false', al_ne, Bool.not_not, al_nn] at hb10p
        have hg1 := hb10p
        refine WO_guardF rfl rfl hb10.h ?_
        refine WO_guardF rfl rfl hb10.h ?_
        refine WO_guardF rfl rfl hb10.h ?_
        refine WO_guardF rfl rfl hb10.h ?_
        refine WO_guardU rfl rfl ?_
        refine WO_guardU rfl rfl ?_
        refine WO_guardU rfl rfl ?_
        refine WO_guardF rfl rfl hb10.h ?_
        refine WO_p (PS_pickT rfl hb10.h rfl) ?_
        refine WO_nil ?_
        refine thn_normal ?_
        refine W_condT rfl rfl ?_
        refine W_exit ?_
        refine thn_exit ?_
        refine inBlk_exit_ne (by decide) ?_
        refine thn_exit ?_
        refine inBlk_exit ?_
        refine thn_normal ?_
        refine W_seq ?_
        refine W_region rfl ?_
        refine WO_p (PS_move_int rfl) ?_
        refine WO_p (PS_move_int rfl) ?_
        refine WO_p (PS_assign_int rfl) ?_
        refine WO_p (PS_assign_int rfl) ?_
        refine WO_nil ?_
        refine thn_normal ?_
        refine W_ret ?_
        refine bodyQ_ret2 Hvac.results382 rfl rfl (.int _ _) (.int _ _) rfl rfl ?_
        first
        | exact ⟨hE2, q, f, rfl, hq, hf, tri_big he (by omega) (by omega) (by omega) (by omega) (by omega) (by omega), hT⟩
        | exact ⟨hE2, q, f, rfl, hq, hf, tri_ok (r := r) (by omega) (by generalize q * x = z at *; omega), hT⟩
      · have hb10p := hb10.h; try simp only [al_ete, al_dfn, Bool.not_eq_true', Bool.not_eq_false', al_ne, Bool.not_not, al_nn] at hb10p
        have hg1 := hb10p
        refine WO_guardT rfl rfl hb10.h ?_
        refine WO_p (PS_move_int rfl) ?_
        refine WO_guardT rfl rfl hb10.h ?_
        refine WO_p (PS_move_int rfl) ?_
        refine WO_guardT rfl rfl hb10.h ?_
        refine WO_p (PS_eql rfl rfl) ?_
        refine WO_guardT rfl rfl hb10.h ?_
        refine WO_p (PS_move_bool rfl) ?_
        refine WO_if (t := 48) rfl (fun hb12 => ?_) (fun hb12 => ?_)
        · have hb12p := hb12.h; try simp only [al_ete, al_dfn, Bool.not_eq_true', Bool.not_eq_false', al_ne, Bool.not_not, al_nn] at hb12p
          have hg2 := hb12p
          refine WO_guardT rfl rfl hb12.h ?_
          refine WO_p (PS_move_int rfl) ?_
          refine WO_guardT rfl rfl hb12.h ?_
          refine WO_p (PS_move_int rfl) ?_
          refine WO_guardT rfl rfl hb12.h ?_
          refine WO_p (PS_leq rfl rfl) ?_
          refine WO_guardT rfl rfl hb10.h ?_
          refine WO_p (PS_pickT rfl hb12.h rfl) ?_
          refine WO_p (PS_pickF rfl hb10.h rfl) ?_
          refine WO_nil ?_
          refine thn_normal ?_
          refine W_if rfl (fun hb14 => ?_) (fun hb14 => ?_)
          · have hb14p := hb14.h; try simp only [al_ete, al_dfn, Bool.not_eq_true', Bool.not_eq_false', al_ne, Bool.not_not, al_nn] at hb14p
            have hg3 := hb14p
            refine W_exit ?_
            refine thn_exit ?_
            refine inBlk_exit_ne (by decide) ?_
            refine thn_exit ?_
            refine inBlk_exit ?_
            refine thn_normal ?_
            refine W_seq ?_
            refine W_region rfl ?_
            refine WO_p (PS_move_int rfl) ?_
            refine WO_p (PS_move_int rfl) ?_
            refine WO_p (PS_assign_int rfl) ?_
            refine WO_p (PS_assign_int rfl) ?_
            refine WO_nil ?_
            refine thn_normal ?_
            refine W_ret ?_
            refine bodyQ_ret2 Hvac.results382 rfl rfl (.int _ _) (.int _ _) rfl rfl ?_
            first
            | exact ⟨hE2, q, f, rfl, hq, hf, tri_big he (by omega) (by omega) (by omega) (by omega) (by omega) (by omega), hT⟩
            | exact ⟨hE2, q, f, rfl, hq, hf, tri_ok (r := r) (by omega) (by generalize q * x = z at *; omega), hT⟩
          · have hb14p := hb14.h; try simp only [al_ete, al_dfn, Bool.not_eq_true', Bool.not_eq_false', al_ne, Bool.not_not, al_nn] at hb14p
            have hg3 := hb14p
            have hdec : (h * 18446744073709551616 + m) * 18446744073709551616 + l < (q - 1 + 1) * (t * 18446744073709551616 + x) := tri_dec (r := r) (by omega) (by generalize q * x = z at *; omega)
            have hq1_ : 1 ≤ q := by
              rcases Int.lt_or_le 0 q with h9 | h9
              · exact h9
              · have h8 : q = 0 := by omega
                rw [h8, Int.zero_mul] at hm7
                omega
            refine W_skip ?_
            refine thn_normal ?_
            refine W_seq ?_
            refine W_region rfl ?_
            refine WO_p (PS_move_int rfl) ?_
            refine WO_p (PS_sub_u64w rfl rfl) ?_
            rw [show (q - 1) % 18446744073709551616 = q - 1 by omega]
            refine WO_p (PS_assign_int rfl) ?_
            refine WO_nil ?_
            refine thn_normal ?_
            refine W_seq ?_
            refine W_region rfl ?_
            refine WO_p (PS_move_int rfl) ?_
            refine WO_p (PS_add_u8w rfl rfl) ?_
            refine WO_p (PS_assign_int rfl) ?_
            refine WO_nil ?_
            refine thn_normal ?_
            refine W_region rfl ?_
            refine WO_p (PS_move_int rfl) ?_
            refine WO_p (PS_move_int rfl) ?_
            refine WO_call Hvac.call144 (by rfl) (Ret.mono (add64_ex _ _ _ _ (by omega) (by omega) (by omega)) ?_)
            rintro _ w144_14 ⟨s144_14, k144_14, rfl, hs144_14, hr144_14, hk144_14, hw144_14⟩
            obtain rfl := hw144_14.symm
            refine WO_p (PS_move_tuple rfl) ?_
            refine WO_p (PS_extract_int rfl rfl) ?_
            refine WO_p (PS_extract_int rfl rfl) ?_
            refine WO_p (PS_assign_int rfl) ?_
            refine WO_p (PS_assign_int rfl) ?_
            refine WO_nil ?_
            refine inBlk_normal ?_
            refine thn_normal ?_
            exact ⟨k - 1, by omega, q - 1, _, _, _, by omega, by omega, by omega, by omega, fun _ => by omega, by have := tri_next (q := q) (r := r) (y1 := t) (h := h * 18446744073709551616 + m) (by omega); omega, Or.inr hdec, ⟨rfl, rfl, rfl, rfl, rfl, rfl, rfl, trivial⟩, hE2⟩
        · have hb12p := hb12.h; try simp only [al_ete, al_dfn, Bool.not_eq_true', Bool.not_eq_false', al_ne, Bool.not_not, al_nn] at hb12p
          have hg2 := hb12p
          have hdec : (h * 18446744073709551616 + m) * 18446744073709551616 + l < (q - 1 + 1) * (t * 18446744073709551616 + x) := tri_dec (r := r) (by omega) (by generalize q * x = z at *; omega)
          have hq1_ : 1 ≤ q := by
            rcases Int.lt_or_le 0 q with h9 | h9
            · exact h9
            · have h8 : q = 0 := by omega
              rw [h8, Int.zero_mul] at hm7
              omega
          refine WO_guardF rfl rfl hb12.h ?_
          refine WO_guardF rfl rfl hb12.h ?_
          refine WO_guardF rfl rfl hb12.h ?_
          refine WO_guardT rfl rfl hb10.h ?_
          refine WO_p (PS_pickF rfl hb12.h rfl) ?_
          refine WO_p (PS_pickF rfl hb10.h rfl) ?_
          refine WO_nil ?_
          refine thn_normal ?_
          refine W_condF rfl rfl ?_
          refine W_skip ?_
          refine thn_normal ?_
          refine W_seq ?_
          refine W_region rfl ?_
          refine WO_p (PS_move_int rfl) ?_
          refine WO_p (PS_sub_u64w rfl rfl) ?_
          rw [show (q - 1) % 18446744073709551616 = q - 1 by omega]
          refine WO_p (PS_assign_int rfl) ?_
          refine WO_nil ?_
          refine thn_normal ?_
          refine W_seq ?_
          refine W_region rfl ?_
          refine WO_p (PS_move_int rfl) ?_
          refine WO_p (PS_add_u8w rfl rfl) ?_
          refine WO_p (PS_assign_int rfl) ?_
          refine WO_nil ?_
          refine thn_normal ?_
          refine W_region rfl ?_
          refine WO_p (PS_move_int rfl) ?_
          refine WO_p (PS_move_int rfl) ?_
          refine WO_call Hvac.call144 (by rfl) (Ret.mono (add64_ex _ _ _ _ (by omega) (by omega) (by omega)) ?_)
          rintro _ w144_15 ⟨s144_15, k144_15, rfl, hs144_15, hr144_15, hk144_15, hw144_15⟩
          obtain rfl := hw144_15.symm
          refine WO_p (PS_move_tuple rfl) ?_
          refine WO_p (PS_extract_int rfl rfl) ?_
          refine WO_p (PS_extract_int rfl rfl) ?_
          refine WO_p (PS_assign_int rfl) ?_
          refine WO_p (PS_assign_int rfl) ?_
          refine WO_nil ?_
          refine inBlk_normal ?_
          refine thn_normal ?_
          exact ⟨k - 1, by omega, q - 1, _, _, _, by omega, by omega, by omega, by omega, fun _ => by omega, by have := tri_next (q := q) (r := r) (y1 := t) (h := h * 18446744073709551616 + m) (by omega); omega, Or.inr hdec, ⟨rfl, rfl, rfl, rfl, rfl, rfl, rfl, trivial⟩, hE2⟩
    · have hb7p := hb7.h; try simp only [al_ete, al_dfn, Bool.not_eq_true', Bool.not_eq_false', al_ne, Bool.not_not, al_nn] at hb7p
      have hov0 := hb7p
      refine W_exit ?_
      refine thn_exit ?_
      refine thn_exit ?_
      refine inBlk_exit ?_
      refine thn_normal ?_
      refine W_seq ?_
      refine W_region rfl ?_
      refine WO_p (PS_move_int rfl) ?_
      refine WO_p (PS_move_int rfl) ?_
      refine WO_p (PS_assign_int rfl) ?_
      refine WO_p (PS_assign_int rfl) ?_
      refine WO_nil ?_
      refine thn_normal ?_
      refine W_ret ?_
      refine bodyQ_ret2 Hvac.results382 rfl rfl (.int _ _) (.int _ _) rfl rfl ?_
      first
      | exact ⟨hE2, q, f, rfl, hq, hf, tri_big he (by omega) (by omega) (by omega) (by omega) (by omega) (by omega), hT⟩
      | exact ⟨hE2, q, f, rfl, hq, hf, tri_ok (r := r) (by omega) (by generalize q * x = z at *; omega), hT⟩
  · have hb4p := hb4.h; try simp only [al_ete, al_dfn, Bool.not_eq_true', Bool.not_eq_false', al_ne, Bool.not_not, al_nn] at hb4p
    have hbok := hb4p
    refine W_skip ?_
    refine thn_normal ?_
    refine W_seq ?_
    refine W_block ?_
    refine W_loopN (fun k ρ w' => ∃ q f r ov : Int, (0 ≤ q ∧ q ≤ 18446744073709551615) ∧ (0 ≤ f ∧ f ≤ 255) ∧ (0 ≤ r ∧ r ≤ 18446744073709551615) ∧ (0 ≤ ov ∧ ov ≤ 1) ∧ (ov = 0 → 18446744073709551616 - r ≤ k) ∧ q * t + (r + ov * 18446744073709551616) = h * 18446744073709551616 + m ∧ (q = 18446744073709551615 ∨ (h * 18446744073709551616 + m) * 18446744073709551616 + l < (q + 1) * (t * 18446744073709551616 + x)) ∧ Fr [(2, .int .u64 l), (3, .int .u64 t), (4, .int .u64 x), (10, .int .u64 q), (11, .int .u8 f), (12, .int .u64 r), (14, .int .u64 ov)] ρ ∧ Ext w w') 18446744073709551616 ?_ ?_
    · first
      | (have hno2 := hno1 (by simpa using hbok)
         exact ⟨_, _, _, _, by omega, by omega, by omega, by omega, fun _ => by omega, by omega, Or.inl rfl, ⟨rfl, rfl, rfl, rfl, rfl, rfl, rfl, trivial⟩, hE1⟩)
      | (have hok2 := hok1 (by simpa using hbok)
         exact ⟨_, _, _, _, by omega, by omega, by omega, by omega, fun _ => by omega, by rw [← hok2.2]; omega, Or.inr (tri_init2 hok2.2 hok2.1 (by omega) (by omega) (by omega)), ⟨rfl, rfl, rfl, rfl, rfl, rfl, rfl, trivial⟩, hE1⟩)
    intro k ρ w2 hI
    obtain ⟨q, f, r, ov, hq, hf, hr, hov1, hov, he, hT, hF, hE2⟩ := hI
    refine W_env _ hF ?_
    refine W_seq ?_
    refine W_seq ?_
    refine W_region rfl ?_
    refine WO_p (PS_move_int rfl) ?_
    refine WO_p (PS_eql rfl rfl) ?_
    refine WO_nil ?_
    refine thn_normal ?_
    refine W_if rfl (fun hb18 => ?_) (fun hb18 => ?_)
    · have hb18p := hb18.h; try simp only [al_ete, al_dfn, Bool.not_eq_true', Bool.not_eq_false', al_ne, Bool.not_not, al_nn] at hb18p
      have hov0 := hb18p
      refine W_skip ?_
      refine thn_normal ?_
      refine W_block ?_
      refine W_seq ?_
      refine W_region rfl ?_
      refine WO_p (PS_move_int rfl) ?_
      refine WO_p (PS_move_int rfl) ?_
      refine WO_call Hvac.call143 (by rfl) (Ret.mono (mul64_ex _ _ _ (by omega) (by omega)) ?_)
      rintro _ w7 ⟨hh7, ll7, rfl, hm7, hh7b, hl7b, hw7⟩
      obtain rfl := hw7.symm
      refine WO_p (PS_move_tuple rfl) ?_
      refine WO_p (PS_extract_int rfl rfl) ?_
      refine WO_p (PS_extract_int rfl rfl) ?_
      refine WO_p (PS_assign_int rfl) ?_
      refine WO_p (PS_assign_int rfl) ?_
      refine WO_nil ?_
      refine thn_normal ?_
      refine W_seq ?_
      refine W_seq ?_
      refine W_region rfl ?_
      refine WO_p (PS_move_int rfl) ?_
      refine WO_p (PS_move_int rfl) ?_
      refine WO_p (PS_lss rfl rfl) ?_
      refine WO_p (PS_move_bool rfl) ?_
      refine WO_if (t := 44) rfl (fun hb21 => ?_) (fun hb21 => ?_)
      · have hb21p := hb21.h; try simp only [al_ete, al_dfn, Bool.not_eq_true', Bool.not_eq_false', al_ne, Bool.not_not, al_nn] at hb21p
        have hg1 := hb21p
        refine WO_guardF rfl rfl hb21.h ?_
        refine WO_guardF rfl rfl hb21.h ?_
        refine WO_guardF rfl rfl hb21.h ?_
        refine WO_guardF rfl rfl hb21.h ?_
        refine WO_guardU rfl rfl ?_
        refine WO_guardU rfl rfl ?_
        refine WO_guardU rfl rfl ?_
        refine WO_guardF rfl rfl hb21.h ?_
        refine WO_p (PS_pickT rfl hb21.h rfl) ?_
        refine WO_nil ?_
        refine thn_normal ?_
        refine W_condT rfl rfl ?_
        refine W_exit ?_
        refine thn_exit ?_
        refine inBlk_exit_ne (by decide) ?_
        refine thn_exit ?_
        refine inBlk_exit ?_
        refine thn_normal ?_
        refine W_seq ?_
        refine W_region rfl ?_
        refine WO_p (PS_move_int rfl) ?_
        refine WO_p (PS_move_int rfl) ?_
        refine WO_p (PS_assign_int rfl) ?_
        refine WO_p (PS_assign_int rfl) ?_
        refine WO_nil ?_
        refine thn_normal ?_
        refine W_ret ?_
        refine bodyQ_ret2 Hvac.results382 rfl rfl (.int _ _) (.int _ _) rfl rfl ?_
        first
        | exact ⟨hE2, q, f, rfl, hq, hf, tri_big he (by omega) (by omega) (by omega) (by omega) (by omega) (by omega), hT⟩
        | exact ⟨hE2, q, f, rfl, hq, hf, tri_ok (r := r) (by omega) (by generalize q * x = z at *; omega), hT⟩
      · have hb21p := hb21.h; try simp only [al_ete, al_dfn, Bool.not_eq_true', Bool.not_eq_false', al_ne, Bool.not_not, al_nn] at hb21p
        have hg1 := hb21p
        refine WO_guardT rfl rfl hb21.h ?_
        refine WO_p (PS_move_int rfl) ?_
        refine WO_guardT rfl rfl hb21.h ?_
        refine WO_p (PS_move_int rfl) ?_
        refine WO_guardT rfl rfl hb21.h ?_
        refine WO_p (PS_eql rfl rfl) ?_
        refine WO_guardT rfl rfl hb21.h ?_
        refine WO_p (PS_move_bool rfl) ?_
        refine WO_if (t := 48) rfl (fun hb23 => ?_) (fun hb23 => ?_)
        · have hb23p := hb23.h; try simp only [al_ete, al_dfn, Bool.not_eq_true', Bool.not_eq_false', al_ne, Bool.not_not, al_nn] at hb23p
          have hg2 := hb23p
          refine WO_guardT rfl rfl hb23.h ?_
          refine WO_p (PS_move_int rfl) ?_
          refine WO_guardT rfl rfl hb23.h ?_
          refine WO_p (PS_move_int rfl) ?_
          refine WO_guardT rfl rfl hb23.h ?_
          refine WO_p (PS_leq rfl rfl) ?_
          refine WO_guardT rfl rfl hb21.h ?_
          refine WO_p (PS_pickT rfl hb23.h rfl) ?_
          refine WO_p (PS_pickF rfl hb21.h rfl) ?_
          refine WO_nil ?_
          refine thn_normal ?_
          refine W_if rfl (fun hb25 => ?_) (fun hb25 => ?_)
          · have hb25p := hb25.h; try simp only [al_ete, al_dfn, Bool.not_eq_true', Bool.not_eq_false', al_ne, Bool.not_not, al_nn] at hb25p
            have hg3 := hb25p
            refine W_exit ?_
            refine thn_exit ?_
            refine inBlk_exit_ne (by decide) ?_
            refine thn_exit ?_
            refine inBlk_exit ?_
            refine thn_normal ?_
            refine W_seq ?_
            refine W_region rfl ?_
            refine WO_p (PS_move_int rfl) ?_
            refine WO_p (PS_move_int rfl) ?_
            refine WO_p (PS_assign_int rfl) ?_
            refine WO_p (PS_assign_int rfl) ?_
            refine WO_nil ?_
            refine thn_normal ?_
            refine W_ret ?_
            refine bodyQ_ret2 Hvac.results382 rfl rfl (.int _ _) (.int _ _) rfl rfl ?_
            first
            | exact ⟨hE2, q, f, rfl, hq, hf, tri_big he (by omega) (by omega) (by omega) (by omega) (by omega) (by omega), hT⟩
            | exact ⟨hE2, q, f, rfl, hq, hf, tri_ok (r := r) (by omega) (by generalize q * x = z at *; omega), hT⟩
          · have hb25p := hb25.h; try simp only [al_ete, al_dfn, Bool.not_eq_true', Bool.not_eq_false', al_ne, Bool.not_not, al_nn] at hb25p
            have hg3 := hb25p
            have hdec : (h * 18446744073709551616 + m) * 18446744073709551616 + l < (q - 1 + 1) * (t * 18446744073709551616 + x) := tri_dec (r := r) (by omega) (by generalize q * x = z at *; omega)
            have hq1_ : 1 ≤ q := by
              rcases Int.lt_or_le 0 q with h9 | h9
              · exact h9
              · have h8 : q = 0 := by omega
                rw [h8, Int.zero_mul] at hm7
                omega
            refine W_skip ?_
            refine thn_normal ?_
            refine W_seq ?_
            refine W_region rfl ?_
            refine WO_p (PS_move_int rfl) ?_
            refine WO_p (PS_sub_u64w rfl rfl) ?_
            rw [show (q - 1) % 18446744073709551616 = q - 1 by omega]
            refine WO_p (PS_assign_int rfl) ?_
            refine WO_nil ?_
            refine thn_normal ?_
            refine W_seq ?_
            refine W_region rfl ?_
            refine WO_p (PS_move_int rfl) ?_
            refine WO_p (PS_add_u8w rfl rfl) ?_
            refine WO_p (PS_assign_int rfl) ?_
            refine WO_nil ?_
            refine thn_normal ?_
            refine W_region rfl ?_
            refine WO_p (PS_move_int rfl) ?_
            refine WO_p (PS_move_int rfl) ?_
            refine WO_call Hvac.call144 (by rfl) (Ret.mono (add64_ex _ _ _ _ (by omega) (by omega) (by omega)) ?_)
            rintro _ w144_25 ⟨s144_25, k144_25, rfl, hs144_25, hr144_25, hk144_25, hw144_25⟩
            obtain rfl := hw144_25.symm
            refine WO_p (PS_move_tuple rfl) ?_
            refine WO_p (PS_extract_int rfl rfl) ?_
            refine WO_p (PS_extract_int rfl rfl) ?_
            refine WO_p (PS_assign_int rfl) ?_
            refine WO_p (PS_assign_int rfl) ?_
            refine WO_nil ?_
            refine inBlk_normal ?_
            refine thn_normal ?_
            exact ⟨k - 1, by omega, q - 1, _, _, _, by omega, by omega, by omega, by omega, fun _ => by omega, by have := tri_next (q := q) (r := r) (y1 := t) (h := h * 18446744073709551616 + m) (by omega); omega, Or.inr hdec, ⟨rfl, rfl, rfl, rfl, rfl, rfl, rfl, trivial⟩, hE2⟩
        · have hb23p := hb23.h; try simp only [al_ete, al_dfn, Bool.not_eq_true', Bool.not_eq_false', al_ne, Bool.not_not, al_nn] at hb23p
          have hg2 := hb23p
          have hdec : (h * 18446744073709551616 + m) * 18446744073709551616 + l < (q - 1 + 1) * (t * 18446744073709551616 + x) := tri_dec (r := r) (by omega) (by generalize q * x = z at *; omega)
          have hq1_ : 1 ≤ q := by
            rcases Int.lt_or_le 0 q with h9 | h9
            · exact h9
            · have h8 : q = 0 := by omega
              rw [h8, Int.zero_mul] at hm7
              omega
          refine WO_guardF rfl rfl hb23.h ?_
          refine WO_guardF rfl rfl hb23.h ?_
          refine WO_guardF rfl rfl hb23.h ?_
          refine WO_guardT rfl rfl hb21.h ?_
          refine WO_p (PS_pickF rfl hb23.h rfl) ?_
          refine WO_p (PS_pickF rfl hb21.h rfl) ?_
          refine WO_nil ?_
          refine thn_normal ?_
          refine W_condF rfl rfl ?_
          refine W_skip ?_
          refine thn_normal ?_
          refine W_seq ?_
          refine W_region rfl ?_
          refine WO_p (PS_move_int rfl) ?_
          refine WO_p (PS_sub_u64w rfl rfl) ?_
          rw [show (q - 1) % 18446744073709551616 = q - 1 by omega]
          refine WO_p (PS_assign_int rfl) ?_
          refine WO_nil ?_
          refine thn_normal ?_
          refine W_seq ?_
          refine W_region rfl ?_
          refine WO_p (PS_move_int rfl) ?_
          refine WO_p (PS_add_u8w rfl rfl) ?_
          refine WO_p (PS_assign_int rfl) ?_
          refine WO_nil ?_
          refine thn_normal ?_
          refine W_region rfl ?_
          refine WO_p (PS_move_int rfl) ?_
          refine WO_p (PS_move_int rfl) ?_
          refine WO_call Hvac.call144 (by rfl) (Ret.mono (add64_ex _ _ _ _ (by omega) (by omega) (by omega)) ?_)
          rintro _ w144_26 ⟨s144_26, k144_26, rfl, hs144_26, hr144_26, hk144_26, hw144_26⟩
          obtain rfl := hw144_26.symm
          refine WO_p (PS_move_tuple rfl) ?_
          refine WO_p (PS_extract_int rfl rfl) ?_
          refine WO_p (PS_extract_int rfl rfl) ?_
          refine WO_p (PS_assign_int rfl) ?_
          refine WO_p (PS_assign_int rfl) ?_
          refine WO_nil ?_
          refine inBlk_normal ?_
          refine thn_normal ?_
          exact ⟨k - 1, by omega, q - 1, _, _, _, by omega, by omega, by omega, by omega, fun _ => by omega, by have := tri_next (q := q) (r := r) (y1 := t) (h := h * 18446744073709551616 + m) (by omega); omega, Or.inr hdec, ⟨rfl, rfl, rfl, rfl, rfl, rfl, rfl, trivial⟩, hE2⟩
    · have hb18p := hb18.h; try simp only [al_ete, al_dfn, Bool.not_eq_true', Bool.not_eq_false', al_ne, Bool.not_not, al_nn] at hb18p
      have hov0 := hb18p
      refine W_exit ?_
      refine thn_exit ?_
      refine thn_exit ?_
      refine inBlk_exit ?_
      refine thn_normal ?_
      refine W_seq ?_
      refine W_region rfl ?_
      refine WO_p (PS_move_int rfl) ?_
      refine WO_p (PS_move_int rfl) ?_
      refine WO_p (PS_assign_int rfl) ?_
      refine WO_p (PS_assign_int rfl) ?_
      refine WO_nil ?_
      refine thn_normal ?_
      refine W_ret ?_
      refine bodyQ_ret2 Hvac.results382 rfl rfl (.int _ _) (.int _ _) rfl rfl ?_
      first
      | exact ⟨hE2, q, f, rfl, hq, hf, tri_big he (by omega) (by omega) (by omega) (by omega) (by omega) (by omega), hT⟩
      | exact ⟨hE2, q, f, rfl, hq, hf, tri_ok (r := r) (by omega) (by generalize q * x = z at *; omega), hT⟩

end Go.Proofs.YgvacwGreat
