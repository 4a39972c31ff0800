import Derived.Test.YgvacwGreatJh
import Derived.Test.YgvacwGreatUq
namespace Go.Proofs.YgvacwGreat
set_option linter.unusedSimpArgs false
set_option linter.unusedVariables false
theorem ma_step {P5 P7 Bl : List Int} {i k : Nat} {cy lo hi x : Int} (hl : i + k < P7.length) (hu : P7.getD (i + k) 0 = P5.getD (i + k) 0) (h : lvr P5 i k + x * lvr Bl 0 k = lvr P7 i k + cy * 18446744073709551616 ^ k) (h2 : lo + hi * 18446744073709551616 = x * Bl.getD k 0 + P7.getD (i + k) 0 + cy) : lvr P5 i (k + 1) + x * lvr Bl 0 (k + 1) = lvr (P7.set (i + k) lo) i (k + 1) + hi * 18446744073709551616 ^ (k + 1) := by
  rw [lvr_set_last hl, lvr_succ, lvr_succ, Nat.zero_add, Int.pow_succ, Int.mul_add, ← Int.mul_assoc x]
  rw [hu] at h2
  have e : x * Bl.getD k 0 = lo + hi * 18446744073709551616 - P5.getD (i + k) 0 - cy := by omega
  rw [e, Int.sub_mul, Int.sub_mul, Int.add_mul, Int.mul_assoc hi, Int.mul_comm 18446744073709551616 (18446744073709551616 ^ k)]
  omega
theorem ma_row {P5 P7 P13 A Bl : List Int} {i : Nat} {cy : Int} (hi : i < 8) (hl : P7.length = 16) (hz : ∀ k, i + 8 ≤ k → P5.getD k 0 = 0) (ho : ∀ k, k < i ∨ i + 8 ≤ k → P7.getD k 0 = P5.getD k 0) (h : lvr P5 i 8 + A.getD i 0 * lvr Bl 0 8 = lvr P7 i 8 + cy * 18446744073709551616 ^ 8) (hin : lvr P5 0 (i + 8) = lvr A 0 i * lvr Bl 0 8) (e : P13 = P7.set (i + 8) cy) : lvr P13 0 (i + 1 + 8) = lvr A 0 (i + 1) * lvr Bl 0 8 ∧ ∀ k, i + 1 + 8 ≤ k → P13.getD k 0 = 0 := by
  subst e
  refine ⟨?_, fun k hk => by rw [getD_setI, if_neg (by omega), ho k (by omega)]; exact hz k (by omega)⟩
  have e1 := lvr_split (P7.set (i + 8) cy) 0 i 9
  rw [Nat.zero_add, show i + 9 = i + 1 + 8 by omega] at e1
  have e2 := lvr_set_last (L := P7) (o := i) (n := 8) (y := cy) (by omega)
  have e3 : lvr (P7.set (i + 8) cy) 0 i = lvr P5 0 i := lvr_congr i (fun k hk => by rw [Nat.zero_add, getD_setI, if_neg (by omega)]; exact ho k (by omega))
  have e4 := lvr_split P5 0 i 8
  rw [Nat.zero_add] at e4
  rw [e1, e2, e3, ← h, lvr_succ A 0 i, Nat.zero_add, Int.add_mul, ← hin, e4, Int.mul_add]
  have : 18446744073709551616 ^ i * (A.getD i 0 * lvr Bl 0 8) = A.getD i 0 * 18446744073709551616 ^ i * lvr Bl 0 8 := by rw [← Int.mul_assoc, Int.mul_comm (18446744073709551616 ^ i)]
  omega

set_option maxRecDepth 10000 in
theorem wideLimbs_ex (b : Nat) (T : TypeId) (Y : List Int) (fz : Nat × Nat) (w : World) (hY : Hb w b (.cells (ic .u64 Y) T fz)) (hl : Y.length = 8) (hU : UL Y) : Ret Hvac.prog 363 #[.pointer (some ⟨b, 0, none⟩)] w fun u w' => w' = w ∧ ∃ n : Nat, u = .int .u8 n ∧ n ≤ 8 ∧ (0 < n → Y.getD (n - 1) 0 ≠ 0) ∧ (∀ k, n ≤ k → Y.getD k 0 = 0) := by
  refine Ret_of_W Hvac.func363 rfl rfl ?_
  refine W_seq ?_
  refine W_region rfl ?_
  refine WO_p (PS_assign_int rfl) ?_
  refine WO_nil ?_
  refine thn_normal ?_
  refine W_seq ?_
  refine W_region rfl ?_
  refine WO_p (PS_assign_int rfl) ?_
  refine WO_nil ?_
  refine thn_normal ?_
  refine W_seq ?_
  refine W_block ?_
  refine W_loopN (fun m ρ w' => ∃ (q : Nat), q = m ∧ q ≤ 8 ∧ (∀ k, q ≤ k → Y.getD k 0 = 0) ∧ Fr [(0, .pointer (some ⟨b, 0, none⟩)), (3, .int .u8 q)] ρ ∧ w' = w) 8 ?_ ?_
  · exact ⟨8, rfl, by omega, fun k hk => getD_out (by omega), ⟨rfl, rfl, trivial⟩, rfl⟩
  intro m ρ w2 hI
  obtain ⟨q, hqm, hq8, hzx, hF, rfl⟩ := hI
  refine W_env _ hF ?_
  refine W_seq ?_
  refine W_seq ?_
  refine W_region rfl ?_
  refine WO_p (PS_move_int rfl) ?_
  refine WO_p (PS_gtr rfl rfl) ?_
  refine WO_p (PS_move_bool rfl) ?_
  refine WO_if (t := 6) rfl (fun hb2 => ?_) (fun hb2 => ?_)
  · have hb2p := hb2.h; try simp only [al_ete, al_dfn, Bool.not_eq_true', Bool.not_eq_false', al_ne, Bool.not_not, al_nn] at hb2p
    have hce : Ce (ic .u64 Y) (0 + ((q:Int) - 1).toNat * 1) (.int .u64 (Y.getD (q - 1) 0)) := by rw [show ((q:Int) - 1).toNat = q - 1 by omega]; exact ce_ic (by omega)
    refine WO_guardT rfl rfl hb2.h ?_
    refine WO_p (PS_move_ptr rfl) ?_
    refine WO_guardT rfl rfl hb2.h ?_
    refine WO_p (PS_move_int rfl) ?_
    refine WO_guardT rfl rfl hb2.h ?_
    refine WO_p (PS_sub_u8n rfl rfl (by omega) (by omega)) ?_
    refine WO_guardT rfl rfl hb2.h ?_
    refine WO_p (PS_nilCheck rfl) ?_
    refine WO_guardT rfl rfl hb2.h ?_
    refine WO_p (PS_indexA Hvac.runUnderlying308 Hvac.sizeOf26 rfl rfl (by omega) (by omega)) ?_
    refine WO_guardT rfl rfl hb2.h ?_
    refine WO_load (.int _ _) Hvac.isAgg26 rfl (Hb.h (by repeat (first | assumption | exact Hb.newY _ _ | refine Hb.alloc ?_ | refine Hb.drew ?_ | refine Hb.ext (by assumption) ?_ | exact Hb.setSameL (by first | omega | (simp only [size_alloc, size_setB, size_drew]; omega)) | exact Hb.setSame (by assumption) | refine Hb.set (by first | omega | (simp only [size_alloc, size_setB, size_drew]; omega)) ?_ ))) (Ce.h (by first | assumption | exact ⟨rfl⟩)) ?_
    refine WO_guardT rfl rfl hb2.h ?_
    refine WO_p (PS_eql rfl rfl) ?_
    refine WO_p (PS_pickT rfl hb2.h rfl) ?_
    refine WO_nil ?_
    refine thn_normal ?_
    refine W_if rfl (fun hb4 => ?_) (fun hb4 => ?_)
    · have hb4p := hb4.h; try simp only [al_ete, al_dfn, Bool.not_eq_true', Bool.not_eq_false', al_ne, Bool.not_not, al_nn] at hb4p
      have hx0 := hb4p
      refine W_skip ?_
      refine thn_normal ?_
      refine W_block ?_
      refine W_region rfl ?_
      refine WO_p (PS_move_int rfl) ?_
      refine WO_p (PS_sub_u8n rfl rfl (by omega) (by omega)) ?_
      refine WO_p (PS_assign_int rfl) ?_
      refine WO_nil ?_
      refine inBlk_normal ?_
      refine thn_normal ?_
      exact ⟨m - 1, by omega, q - 1, by omega, by omega, fun k hk => by rcases Nat.lt_or_ge k q with h9 | h9; (· rw [show k = q - 1 by omega]; exact hx0); exact hzx k h9, ⟨rfl, congrArg (Value.int .u8) (by omega), trivial⟩, rfl⟩
    · have hb4p := hb4.h; try simp only [al_ete, al_dfn, Bool.not_eq_true', Bool.not_eq_false', al_ne, Bool.not_not, al_nn] at hb4p
      have hx0 := hb4p
      refine W_exit ?_
      refine thn_exit ?_
      refine thn_exit ?_
      refine inBlk_exit ?_
      refine thn_normal ?_
      refine W_seq ?_
      refine W_region rfl ?_
      refine WO_p (PS_move_int rfl) ?_
      refine WO_p (PS_assign_int rfl) ?_
      refine WO_nil ?_
      refine thn_normal ?_
      refine W_ret ?_
      refine bodyQ_ret1 Hvac.results363 rfl (.int _ _) rfl ?_
      first
      | exact ⟨rfl, q, rfl, hq8, fun _ => hx0, hzx⟩
      | exact ⟨rfl, q, rfl, hq8, fun h => by omega, hzx⟩
  · have hb2p := hb2.h; try simp only [al_ete, al_dfn, Bool.not_eq_true', Bool.not_eq_false', al_ne, Bool.not_not, al_nn] at hb2p
    have hq0 : q = 0 := by omega
    refine WO_guardF rfl rfl hb2.h ?_
    refine WO_guardF rfl rfl hb2.h ?_
    refine WO_guardF rfl rfl hb2.h ?_
    refine WO_guardF rfl rfl hb2.h ?_
    refine WO_guardF rfl rfl hb2.h ?_
    refine WO_guardF rfl rfl hb2.h ?_
    refine WO_guardF rfl rfl hb2.h ?_
    refine WO_p (PS_pickF rfl hb2.h rfl) ?_
    refine WO_nil ?_
    refine thn_normal ?_
    refine W_condF rfl rfl ?_
    refine W_exit ?_
    refine thn_exit ?_
    refine thn_exit ?_
    refine inBlk_exit ?_
    refine thn_normal ?_
    refine W_seq ?_
    refine W_region rfl ?_
    refine WO_p (PS_move_int rfl) ?_
    refine WO_p (PS_assign_int rfl) ?_
    refine WO_nil ?_
    refine thn_normal ?_
    refine W_ret ?_
    refine bodyQ_ret1 Hvac.results363 rfl (.int _ _) rfl ?_
    first
    | exact ⟨rfl, q, rfl, hq8, fun _ => hx0, hzx⟩
    | exact ⟨rfl, q, rfl, hq8, fun h => by omega, hzx⟩

set_option maxRecDepth 10000 in
theorem wideMid_ex (bu bvY n j : Nat) (Tu Tv : TypeId) (U Y : List Int) (w : World) (hU : Hb w bu (.cells (ic .u64 U) Tu (0, 0))) (hV : Hb w bvY (.cells (ic .u64 Y) Tv (0, 0))) (hul : U.length = 17) (hUL : UL U) (hyl : Y.length = 8) (hYL : UL Y) (hn : n ≤ 255) (hj : j ≤ 255) (hn2 : 2 ≤ n) (hn8 : n ≤ 8) (hjn : j + n ≤ 16) (hYz : ∀ k, n ≤ k → Y.getD k 0 = 0) (htop : 9223372036854775808 ≤ Y.getD (n - 1) 0) (hzero : ∀ k, j + n < k → U.getD k 0 = 0) (hlt : lvr U (j + 1) n < lvr Y 0 n) : Ret Hvac.prog 376 #[.pointer (some ⟨bu, 0, none⟩), .pointer (some ⟨bvY, 0, none⟩), .int .u8 n, .int .u8 j] w fun u w' => Ext w w' ∧ u = .bool true := by
  refine Ret_of_W Hvac.func376 rfl rfl ?_
  refine W_seq ?_
  refine W_region rfl ?_
  refine WO_p (PS_assign_bool rfl) ?_
  refine WO_nil ?_
  refine thn_normal ?_
  refine W_seq ?_
  refine W_seq ?_
  refine W_region rfl ?_
  refine WO_p (PS_move_ptr rfl) ?_
  refine WO_p (PS_eqlnil Hvac.underlying407 rfl) ?_
  refine WO_p (PS_move_bool rfl) ?_
  refine WO_if (t := 11) rfl (fun hb2 => ?_) (fun hb2 => ?_)
  · have hb2p := hb2.h; try simp only [al_ete, al_dfn, Bool.not_eq_true', Bool.not_eq_false', al_ne, Bool.not_not, al_nn] at hb2p
    first | (exfalso; omega) | (exfalso; exact hb2p rfl) | (exfalso; simp at hb2p) --END
  · have hb2p := hb2.h; try simp only [al_ete, al_dfn, Bool.not_eq_true', Bool.not_eq_false', al_ne, Bool.not_not, al_nn] at hb2p
    refine WO_guardT rfl rfl hb2.h ?_
    refine WO_p (PS_move_ptr rfl) ?_
    refine WO_guardT rfl rfl hb2.h ?_
    refine WO_p (PS_eqlnil Hvac.underlying311 rfl) ?_
    refine WO_p (PS_pickF rfl hb2.h rfl) ?_
    refine WO_p (PS_move_bool rfl) ?_
    refine WO_if (t := 15) rfl (fun hb4 => ?_) (fun hb4 => ?_)
    · have hb4p := hb4.h; try simp only [al_ete, al_dfn, Bool.not_eq_true', Bool.not_eq_false', al_ne, Bool.not_not, al_nn] at hb4p
      first | (exfalso; omega) | (exfalso; exact hb4p rfl) | (exfalso; simp at hb4p) --END
    · have hb4p := hb4.h; try simp only [al_ete, al_dfn, Bool.not_eq_true', Bool.not_eq_false', al_ne, Bool.not_not, al_nn] at hb4p
      refine WO_guardT rfl rfl hb4.h ?_
      refine WO_p (PS_move_int rfl) ?_
      refine WO_guardT rfl rfl hb4.h ?_
      refine WO_p (PS_lss rfl rfl) ?_
      refine WO_p (PS_pickF rfl hb4.h rfl) ?_
      refine WO_p (PS_move_bool rfl) ?_
      refine WO_if (t := 19) rfl (fun hb6 => ?_) (fun hb6 => ?_)
      · have hb6p := hb6.h; try simp only [al_ete, al_dfn, Bool.not_eq_true', Bool.not_eq_false', al_ne, Bool.not_not, al_nn] at hb6p
        first | (exfalso; omega) | (exfalso; exact hb6p rfl) | (exfalso; simp at hb6p) --END
      · have hb6p := hb6.h; try simp only [al_ete, al_dfn, Bool.not_eq_true', Bool.not_eq_false', al_ne, Bool.not_not, al_nn] at hb6p
        refine WO_guardT rfl rfl hb6.h ?_
        refine WO_p (PS_move_int rfl) ?_
        refine WO_guardT rfl rfl hb6.h ?_
        refine WO_p (PS_gtr rfl rfl) ?_
        refine WO_p (PS_pickF rfl hb6.h rfl) ?_
        refine WO_p (PS_move_bool rfl) ?_
        refine WO_if (t := 23) rfl (fun hb8 => ?_) (fun hb8 => ?_)
        · have hb8p := hb8.h; try simp only [al_ete, al_dfn, Bool.not_eq_true', Bool.not_eq_false', al_ne, Bool.not_not, al_nn] at hb8p
          first | (exfalso; omega) | (exfalso; exact hb8p rfl) | (exfalso; simp at hb8p) --END
        · have hb8p := hb8.h; try simp only [al_ete, al_dfn, Bool.not_eq_true', Bool.not_eq_false', al_ne, Bool.not_not, al_nn] at hb8p
          refine WO_guardT rfl rfl hb8.h ?_
          refine WO_p (PS_move_int rfl) ?_
          refine WO_guardT rfl rfl hb8.h ?_
          refine WO_p (PS_move_int rfl) ?_
          refine WO_guardT rfl rfl hb8.h ?_
          refine WO_p (PS_sub_u8n rfl rfl (by omega) (by omega)) ?_
          refine WO_guardT rfl rfl hb8.h ?_
          refine WO_p (PS_gtr rfl rfl) ?_
          refine WO_p (PS_pickF rfl hb8.h rfl) ?_
          refine WO_p (PS_move_bool rfl) ?_
          refine WO_if (t := 29) rfl (fun hb10 => ?_) (fun hb10 => ?_)
          · have hb10p := hb10.h; try simp only [al_ete, al_dfn, Bool.not_eq_true', Bool.not_eq_false', al_ne, Bool.not_not, al_nn] at hb10p
            first | (exfalso; omega) | (exfalso; exact hb10p rfl) | (exfalso; simp at hb10p) --END
          · have hb10p := hb10.h; try simp only [al_ete, al_dfn, Bool.not_eq_true', Bool.not_eq_false', al_ne, Bool.not_not, al_nn] at hb10p
            refine WO_guardT rfl rfl hb10.h ?_
            refine WO_p (PS_move_ptr rfl) ?_
            refine WO_guardT rfl rfl hb10.h ?_
            refine WO_call Hvac.call363 (by rfl) (Ret.mono (wideLimbs_ex bvY Tv Y (0, 0) _ hV hyl hYL) ?_)
            rintro _ _ ⟨rfl, k, rfl, hk, hkz, hkzz⟩
            have hkn : k = n := by
              rcases Nat.lt_or_ge k n with h9 | h9
              · exfalso; have := hkzz (n - 1) (by omega); omega
              · rcases Nat.lt_or_ge n k with h8 | h8
                · exfalso; exact hkz (by omega) (hYz (k - 1) (by omega))
                · omega
            subst hkn
            refine WO_guardT rfl rfl hb10.h ?_
            refine WO_p (PS_move_int rfl) ?_
            refine WO_guardT rfl rfl hb10.h ?_
            refine WO_p (PS_neq rfl rfl) ?_
            refine WO_p (PS_pickF rfl hb10.h rfl) ?_
            refine WO_nil ?_
            refine thn_normal ?_
            refine W_if rfl (fun hb13 => ?_) (fun hb13 => ?_)
            · have hb13p := hb13.h; try simp only [al_ete, al_dfn, Bool.not_eq_true', Bool.not_eq_false', al_ne, Bool.not_not, al_nn] at hb13p
              first | (exfalso; omega) | (exfalso; exact hb13p rfl) | (exfalso; simp at hb13p) --END
            · have hb13p := hb13.h; try simp only [al_ete, al_dfn, Bool.not_eq_true', Bool.not_eq_false', al_ne, Bool.not_not, al_nn] at hb13p
              refine W_skip ?_
              refine thn_normal ?_
              refine W_seq ?_
              refine W_drawE [false, false, false, false, false, false, false, false, false, false] hmix (by kernel_rfl) rfl ?_
              refine WH_p (PS_move_ptr rfl) rfl ?_
              refine WH_p (PS_nilCheck rfl) rfl ?_
              refine WH_p (PS_slA Hvac.runUnderlying403 Hvac.sizeOf26 rfl (by omega)) rfl ?_
              refine WH_p (PS_move_ptr rfl) rfl ?_
              refine WH_p (PS_nilCheck rfl) rfl ?_
              refine WH_p (PS_slA Hvac.runUnderlying308 Hvac.sizeOf26 rfl (by omega)) rfl ?_
              refine WH_p (PS_move_int rfl) rfl ?_
              refine WH_p (PS_move_int rfl) rfl ?_
              refine WH_call Hvac.call381 (by rfl) (Ret.mono (midHolds_ex bu bvY 17 8 17 8 _ j Tu Tv U Y _ (Hb.mk (Hb.h (by repeat (first | assumption | exact Hb.newY _ _ | refine Hb.alloc ?_ | refine Hb.drew ?_ | refine Hb.ext (by assumption) ?_ | exact Hb.setSameL (by first | omega | (simp only [size_alloc, size_setB, size_drew]; omega)) | exact Hb.setSame (by assumption) | refine Hb.set (by first | omega | (simp only [size_alloc, size_setB, size_drew]; omega)) ?_ )))) (Hb.mk (Hb.h (by repeat (first | assumption | exact Hb.newY _ _ | refine Hb.alloc ?_ | refine Hb.drew ?_ | refine Hb.ext (by assumption) ?_ | exact Hb.setSameL (by first | omega | (simp only [size_alloc, size_setB, size_drew]; omega)) | exact Hb.setSame (by assumption) | refine Hb.set (by first | omega | (simp only [size_alloc, size_setB, size_drew]; omega)) ?_ )))) hul hyl (by omega) (by omega) (by omega) (by decide) hUL hYL htop hzero hlt) ?_)
              rintro _ w2 ⟨hE2, rfl⟩
              refine ⟨(fun h => by cases h), ?_⟩
              refine WH_p (PS_assign_bool rfl) rfl ?_
              refine WH_nil ?_
              refine thn_normal ?_
              refine W_ret ?_
              refine bodyQ_ret1 Hvac.results376 rfl (.bool _) rfl ?_
              exact ⟨(by repeat (first | assumption | exact Ext.refl _ | refine Ext.alloc ?_ _ | refine Ext.drew ?_ | refine Ext.setB ?_ (by first | omega | (simp only [size_alloc, size_setB, size_drew]; omega)) _ | refine Ext.trans ?_ (by assumption))), rfl⟩

set_option maxRecDepth 10000 in
theorem roundWide_ex (bu bvY n j : Nat) (Tu Tv : TypeId) (U Y : List Int) (w : World) (hU : Hb w bu (.cells (ic .u64 U) Tu (0, 0))) (hV : Hb w bvY (.cells (ic .u64 Y) Tv (0, 0))) (hne : bu ≠ bvY) (hul : U.length = 17) (hUL : UL U) (hyl : Y.length = 8) (hYL : UL Y) (hn : n ≤ 255) (hj : j ≤ 255) (hn2 : 2 ≤ n) (hn8 : n ≤ 8) (hjn : j + n ≤ 16) (hYz : ∀ k, n ≤ k → Y.getD k 0 = 0) (htop : 9223372036854775808 ≤ Y.getD (n - 1) 0) (hzero : ∀ k, j + n < k → U.getD k 0 = 0) (hlt : lvr U (j + 1) n < lvr Y 0 n) : Ret Hvac.prog 366 #[.pointer (some ⟨bu, 0, none⟩), .pointer (some ⟨bvY, 0, none⟩), .int .u8 n, .int .u8 j] w fun u w' => ∃ (q f : Int) (z : Bool), u = .tuple #[.int .u64 q, .int .u8 f, .bool z] ∧ (0 ≤ q ∧ q ≤ 18446744073709551615) ∧ (0 ≤ f ∧ f ≤ 255) ∧ TurnX bu Tu U w w' fun L' => (q = lvr U j (n + 1) / lvr Y 0 n ∧ lvr L' j (n + 1) = lvr U j (n + 1) % lvr Y 0 n) ∧ (∀ k, k < j ∨ j + n < k → L'.getD k 0 = U.getD k 0) := by
  refine Ret_of_W Hvac.func366 rfl rfl ?_
  refine W_seq ?_
  refine W_region rfl ?_
  refine WO_p (PS_assign_int rfl) ?_
  refine WO_p (PS_assign_int rfl) ?_
  refine WO_p (PS_assign_bool rfl) ?_
  refine WO_nil ?_
  refine thn_normal ?_
  refine W_seq ?_
  refine W_seq ?_
  refine W_region rfl ?_
  refine WO_p (PS_move_ptr rfl) ?_
  refine WO_p (PS_move_ptr rfl) ?_
  refine WO_p (PS_move_int rfl) ?_
  refine WO_p (PS_move_int rfl) ?_
  refine WO_call Hvac.call376 (by rfl) (Ret.mono (wideMid_ex bu bvY n j Tu Tv U Y _ hU hV hul hUL hyl hYL hn hj hn2 hn8 hjn hYz htop hzero hlt) ?_)
  rintro _ w1 ⟨hE1, rfl⟩
  have hzz1 := hE1.1
  have hU1 := Hb.ext hE1 hU
  have hV1 := Hb.ext hE1 hV
  refine WO_p (PS_not rfl) ?_
  refine WO_nil ?_
  refine thn_normal ?_
  refine W_if rfl (fun hb4 => ?_) (fun hb4 => ?_)
  · have hb4p := hb4.h; try simp only [al_ete, al_dfn, Bool.not_eq_true', Bool.not_eq_false', al_ne, Bool.not_not, al_nn] at hb4p
    simp at hb4p --END
  · have hb4p := hb4.h; try simp only [al_ete, al_dfn, Bool.not_eq_true', Bool.not_eq_false', al_ne, Bool.not_not, al_nn] at hb4p
    refine W_skip ?_
    refine thn_normal ?_
    refine W_seq ?_
    refine W_drawE [false, false, false, false, false, false, false, false, false, false, false, false, false, false, false, false, false, false, false, false, false, false, false, false] hmix (by kernel_rfl) rfl ?_
    refine WH_p (PS_move_ptr rfl) rfl ?_
    refine WH_p (PS_nilCheck rfl) rfl ?_
    refine WH_p (PS_move_int rfl) rfl ?_
    refine WH_p (PS_move_int rfl) rfl ?_
    refine WH_p (PS_move_int rfl) rfl ?_
    refine WH_p (PS_add_u8n rfl rfl (by omega) (by omega)) rfl ?_
    refine WH_p (PS_add_u8n rfl rfl (by omega) (by omega)) rfl ?_
    refine WH_p (PS_move_int rfl) rfl ?_
    refine WH_p (PS_move_int rfl) rfl ?_
    refine WH_p (PS_add_u8n rfl rfl (by omega) (by omega)) rfl ?_
    refine WH_p (PS_add_u8n rfl rfl (by omega) (by omega)) rfl ?_
    refine WH_p (PS_slA_lhm Hvac.runUnderlying403 Hvac.sizeOf26 rfl rfl rfl rfl (by omega) (by omega) (by omega) (by omega) (by omega) (by omega) (by omega)) rfl ?_
    rw [show ((j : Int) + n + 1).toNat - (j : Int).toNat = n + 1 by omega, show (j : Int).toNat = j by omega]
    refine WH_p (PS_move_ptr rfl) rfl ?_
    refine WH_p (PS_nilCheck rfl) rfl ?_
    refine WH_p (PS_move_int rfl) rfl ?_
    refine WH_p (PS_move_int rfl) rfl ?_
    refine WH_p (PS_slA_hm Hvac.runUnderlying308 Hvac.sizeOf26 rfl rfl rfl (by omega) (by omega) (by omega) (by omega) (by omega)) rfl ?_
    rw [show (n : Int).toNat = n by omega]
    refine WH_call Hvac.call377 (by rfl) (Ret.mono (roundD_ex bu bvY n _ _ (0 + j * 1) 0 Tu Tv U Y _ (Hb.drew hU1) (Hb.drew hV1) hne hUL hYL (by omega) (by omega) hn2 (by omega) (by rw [show 0 + (n - 1) = n - 1 by omega]; omega) (by rw [show 0 + j * 1 + 1 = j + 1 by omega]; exact hlt)) ?_)
    rintro _ w2 ⟨q2, f2, z2, rfl, hq2, hf2, L2, k1, k2, k3, k4, k5, k6⟩
    refine ⟨(fun h => by cases h), ?_⟩
    rw [show 0 + j * 1 = j by omega] at k5 k6
    refine WH_p (PS_extract_int rfl rfl) rfl ?_
    refine WH_p (PS_extract_int rfl rfl) rfl ?_
    refine WH_p (PS_extract_bool rfl rfl) rfl ?_
    refine WH_p (PS_assign_int rfl) rfl ?_
    refine WH_p (PS_assign_int rfl) rfl ?_
    refine WH_p (PS_assign_bool rfl) rfl ?_
    refine WH_nil ?_
    refine thn_normal ?_
    refine W_ret ?_
    refine bodyQ_ret3 Hvac.results366 rfl rfl rfl (.int _ _) (.int _ _) (.bool _) rfl rfl rfl ?_
    exact ⟨q2, f2, z2, rfl, hq2, hf2, L2, k1, k2, k3, ((Ext.drew hE1).keepO _).trans k4 (fun _ _ e => e), k5, k6⟩

set_option maxRecDepth 10000 in
set_option maxHeartbeats 4000000 in
theorem mul1024_ex (ba bb2 : Nat) (Ta Tb : TypeId) (A B : List Int) (w : World) (hA : Hb w ba (.cells (ic .u64 A) Ta (0, 0))) (hB : Hb w bb2 (.cells (ic .u64 B) Tb (0, 0))) (hal : A.length = 8) (hbl : B.length = 8) (hAL : UL A) (hBL : UL B) : Ret Hvac.prog 328 #[.pointer (some ⟨ba, 0, none⟩), .pointer (some ⟨bb2, 0, none⟩)] w fun u w' => Ext w w' ∧ ∃ R, u = .agg (ic .u64 R) ∧ R.length = 16 ∧ UL R ∧ lvr R 0 16 = lvr A 0 8 * lvr B 0 8 := by
  have hal0 := hA.lt
  have hbl0 := hB.lt
  have hr16 : (List.replicate 16 (0 : Int)).length = 16 := by simp
  refine Ret_of_W Hvac.func328 rfl rfl ?_
  refine W_seq ?_
  refine W_region rfl ?_
  refine WO_allocG Hvac.zeroValue367 ?_
  intro b4 v4 hg4 hE4 hH4 hl4
  try simp only [size_alloc, size_setB, size_drew] at hg4
  have hzz4 := hE4.1
  try simp only [size_alloc, size_setB, size_drew] at hzz4
  replace hH4 : Hb v4 b4 (.cells (ic .u64 (List.replicate 16 0)) 367 (0, 0)) := hH4
  refine WO_nil ?_
  refine thn_normal ?_
  refine W_seq ?_
  refine W_region rfl ?_
  refine WO_allocG Hvac.zeroValue367 ?_
  intro b5 v5 hg5 hE5 hH5 hl5
  try simp only [size_alloc, size_setB, size_drew] at hg5
  have hzz5 := hE5.1
  try simp only [size_alloc, size_setB, size_drew] at hzz5
  replace hH5 : Hb v5 b5 (.cells (ic .u64 (List.replicate 16 0)) 367 (0, 0)) := hH5
  refine WO_nil ?_
  refine thn_normal ?_
  refine W_seq ?_
  refine W_seq ?_
  refine W_region rfl ?_
  refine WO_p (PS_move_ptr rfl) ?_
  refine WO_p (PS_move_int rfl) ?_
  refine WO_nil ?_
  refine thn_normal ?_
  refine W_block ?_
  refine W_loopN (fun m ρ w' => ∃ (i : Nat) (P5 : List Int), i + m = 8 ∧ P5.length = 16 ∧ UL P5 ∧ (lvr P5 0 (i + 8) = lvr A 0 i * lvr B 0 8 ∧ ∀ k, i + 8 ≤ k → P5.getD k 0 = 0) ∧ Fr [(0, .pointer (some ⟨ba, 0, none⟩)), (1, .pointer (some ⟨bb2, 0, none⟩)), (4, .pointer (some ⟨b4, 0, none⟩)), (5, .pointer (some ⟨b5, 0, none⟩)), (13, .pointer (some ⟨ba, 0, none⟩)), (14, .int .i64 i)] ρ ∧ Ext w w' ∧ v5.heap.size ≤ w'.heap.size ∧ Hb w' b4 (.cells (ic .u64 (List.replicate 16 0)) 367 (0, 0)) ∧ Hb w' b5 (.cells (ic .u64 P5) 367 (0, 0))) 8 ?_ ?_
  · exact ⟨0, List.replicate 16 0, rfl, hr16, ULr 16, ⟨by rw [lvr_zeros _ (fun k _ => getD_rep _ _)]; simp [lvr], fun k _ => getD_rep _ _⟩, ⟨rfl, rfl, rfl, rfl, rfl, rfl, trivial⟩, (by repeat (first | assumption | exact Ext.refl _ | refine Ext.alloc ?_ _ | refine Ext.drew ?_ | refine Ext.setB ?_ (by first | omega | (simp only [size_alloc, size_setB, size_drew]; omega)) _ | refine Ext.trans ?_ (by assumption))), Nat.le_refl _, Hb.mk (Hb.h (by repeat (first | assumption | exact Hb.newY _ _ | refine Hb.alloc ?_ | refine Hb.drew ?_ | refine Hb.ext (by assumption) ?_ | exact Hb.setSameL (by first | omega | (simp only [size_alloc, size_setB, size_drew]; omega)) | exact Hb.setSame (by assumption) | refine Hb.set (by first | omega | (simp only [size_alloc, size_setB, size_drew]; omega)) ?_ ))), Hb.mk (Hb.h (by repeat (first | assumption | exact Hb.newY _ _ | refine Hb.alloc ?_ | refine Hb.drew ?_ | refine Hb.ext (by assumption) ?_ | exact Hb.setSameL (by first | omega | (simp only [size_alloc, size_setB, size_drew]; omega)) | exact Hb.setSame (by assumption) | refine Hb.set (by first | omega | (simp only [size_alloc, size_setB, size_drew]; omega)) ?_ )))⟩
  intro m ρ w5 hI
  obtain ⟨i, P5, him, hp5, hP5, ⟨hin5, hiz5⟩, hF5, hE5', hz5, hb45, hb55⟩ := hI
  refine W_env _ hF5 ?_
  have hz5' := hE5'.1
  have hx5 := hAL.get i
  refine W_seq ?_
  refine W_region rfl ?_
  refine WO_p (PS_lss rfl rfl) ?_
  refine WO_nil ?_
  refine thn_normal ?_
  refine W_seq ?_
  refine W_if rfl (fun hb2 => ?_) (fun hb2 => ?_)
  · have hb2p := hb2.h; try simp only [al_ete, al_dfn, Bool.not_eq_true', Bool.not_eq_false', al_ne, Bool.not_not, al_nn] at hb2p
    have hce : Ce (ic .u64 A) (0 + (i : Int).toNat * 1) (.int .u64 (A.getD i 0)) := by rw [Int.toNat_natCast]; exact ce_ic (by omega)
    refine W_skip ?_
    refine thn_normal ?_
    refine W_seq ?_
    refine W_block ?_
    refine W_seq ?_
    refine W_drawE [false, false, false, false, false, false] hmix (by kernel_rfl) rfl ?_
    refine WH_p (PS_move_int rfl) rfl ?_
    refine WH_p (PS_nilCheck rfl) rfl ?_
    refine WH_p (PS_indexA Hvac.runUnderlying308 Hvac.sizeOf26 rfl rfl (by omega) (by omega)) rfl ?_
    refine WH_load (.int _ _) Hvac.isAgg26 rfl (Hb.h (by repeat (first | assumption | exact Hb.newY _ _ | refine Hb.alloc ?_ | refine Hb.drew ?_ | refine Hb.ext (by assumption) ?_ | exact Hb.setSameL (by first | omega | (simp only [size_alloc, size_setB, size_drew]; omega)) | exact Hb.setSame (by assumption) | refine Hb.set (by first | omega | (simp only [size_alloc, size_setB, size_drew]; omega)) ?_ ))) (Ce.h (by first | assumption | exact ⟨rfl⟩)) ?_
    refine WH_p (PS_assign_int rfl) rfl ?_
    refine WH_p (PS_assign_int rfl) rfl ?_
    refine WH_nil ?_
    refine thn_normal ?_
    refine W_seq ?_
    refine W_region rfl ?_
    refine WO_p (PS_assign_int rfl) ?_
    refine WO_nil ?_
    refine thn_normal ?_
    refine W_seq ?_
    refine W_seq ?_
    refine W_region rfl ?_
    refine WO_p (PS_move_ptr rfl) ?_
    refine WO_p (PS_move_int rfl) ?_
    refine WO_nil ?_
    refine thn_normal ?_
    refine W_block ?_
    refine W_loopN (fun m ρ w' => ∃ (k : Nat) (P7 : List Int) (cy : Int), k + m = 8 ∧ P7.length = 16 ∧ UL P7 ∧ (0 ≤ cy ∧ cy ≤ 18446744073709551615) ∧ (lvr P5 i k + A.getD i 0 * lvr B 0 k = lvr P7 i k + cy * 18446744073709551616 ^ k ∧ ∀ k', k' < i ∨ i + k ≤ k' → P7.getD k' 0 = P5.getD k' 0) ∧ Fr [(0, .pointer (some ⟨ba, 0, none⟩)), (1, .pointer (some ⟨bb2, 0, none⟩)), (4, .pointer (some ⟨b4, 0, none⟩)), (5, .pointer (some ⟨b5, 0, none⟩)), (6, .int .i64 i), (7, .int .u64 (A.getD i 0)), (8, .int .u64 cy), (13, .pointer (some ⟨ba, 0, none⟩)), (14, .int .i64 i), (20, .pointer (some ⟨bb2, 0, none⟩)), (21, .int .i64 k)] ρ ∧ Ext w w' ∧ v5.heap.size ≤ w'.heap.size ∧ Hb w' b4 (.cells (ic .u64 (List.replicate 16 0)) 367 (0, 0)) ∧ Hb w' b5 (.cells (ic .u64 P7) 367 (0, 0))) 8 ?_ ?_
    · exact ⟨0, P5, 0, rfl, hp5, hP5, by decide, ⟨by simp [lvr], fun _ _ => rfl⟩, ⟨rfl, rfl, rfl, rfl, rfl, rfl, rfl, rfl, rfl, rfl, rfl, trivial⟩, (by repeat (first | assumption | exact Ext.refl _ | refine Ext.alloc ?_ _ | refine Ext.drew ?_ | refine Ext.setB ?_ (by first | omega | (simp only [size_alloc, size_setB, size_drew]; omega)) _ | refine Ext.trans ?_ (by assumption))), by first | omega | (simp only [size_drew]; omega), Hb.mk (Hb.h (by repeat (first | assumption | exact Hb.newY _ _ | refine Hb.alloc ?_ | refine Hb.drew ?_ | refine Hb.ext (by assumption) ?_ | exact Hb.setSameL (by first | omega | (simp only [size_alloc, size_setB, size_drew]; omega)) | exact Hb.setSame (by assumption) | refine Hb.set (by first | omega | (simp only [size_alloc, size_setB, size_drew]; omega)) ?_ ))), Hb.mk (Hb.h (by repeat (first | assumption | exact Hb.newY _ _ | refine Hb.alloc ?_ | refine Hb.drew ?_ | refine Hb.ext (by assumption) ?_ | exact Hb.setSameL (by first | omega | (simp only [size_alloc, size_setB, size_drew]; omega)) | exact Hb.setSame (by assumption) | refine Hb.set (by first | omega | (simp only [size_alloc, size_setB, size_drew]; omega)) ?_ )))⟩
    intro m7 ρ w7 hI
    obtain ⟨k, P7, cy, hkm, hp7, hP7, hcy, ⟨hlv7, hou7⟩, hF7, hE7', hz7, hb47, hb57⟩ := hI
    refine W_env _ hF7 ?_
    have hz7' := hE7'.1
    have hy7 := hBL.get k
    have hp7k := hP7.get (i + k)
    refine W_seq ?_
    refine W_region rfl ?_
    refine WO_p (PS_lss rfl rfl) ?_
    refine WO_nil ?_
    refine thn_normal ?_
    refine W_seq ?_
    refine W_if rfl (fun hb4 => ?_) (fun hb4 => ?_)
    · have hb4p := hb4.h; try simp only [al_ete, al_dfn, Bool.not_eq_true', Bool.not_eq_false', al_ne, Bool.not_not, al_nn] at hb4p
      have hce2 : Ce (ic .u64 B) (0 + (k : Int).toNat * 1) (.int .u64 (B.getD k 0)) := by rw [Int.toNat_natCast]; exact ce_ic (by omega)
      have hce3 : Ce (ic .u64 P7) (0 + ((i : Int) + k).toNat * 1) (.int .u64 (P7.getD (i + k) 0)) := by rw [show ((i : Int) + k).toNat = i + k by omega]; exact ce_ic (by omega)
      refine W_skip ?_
      refine thn_normal ?_
      refine W_seq ?_
      refine W_block ?_
      refine W_seq ?_
      refine W_drawE [false, false, false, false, false, false] hmix (by kernel_rfl) rfl ?_
      refine WH_p (PS_move_int rfl) rfl ?_
      refine WH_p (PS_nilCheck rfl) rfl ?_
      refine WH_p (PS_indexA Hvac.runUnderlying308 Hvac.sizeOf26 rfl rfl (by omega) (by omega)) rfl ?_
      refine WH_load (.int _ _) Hvac.isAgg26 rfl (Hb.h (by repeat (first | assumption | exact Hb.newY _ _ | refine Hb.alloc ?_ | refine Hb.drew ?_ | refine Hb.ext (by assumption) ?_ | exact Hb.setSameL (by first | omega | (simp only [size_alloc, size_setB, size_drew]; omega)) | exact Hb.setSame (by assumption) | refine Hb.set (by first | omega | (simp only [size_alloc, size_setB, size_drew]; omega)) ?_ ))) (Ce.h (by first | assumption | exact ⟨rfl⟩)) ?_
      refine WH_p (PS_assign_int rfl) rfl ?_
      refine WH_p (PS_assign_int rfl) rfl ?_
      refine WH_nil ?_
      refine thn_normal ?_
      refine W_seq ?_
      refine W_region rfl ?_
      refine WO_p (PS_move_int rfl) ?_
      refine WO_p (PS_move_int rfl) ?_
      refine WO_p (PS_move_int rfl) ?_
      refine WO_p (PS_move_int rfl) ?_
      refine WO_p (PS_add_i64n rfl rfl (by omega) (by omega)) ?_
      refine WO_p (PS_indexA Hvac.runUnderlying367 Hvac.sizeOf26 rfl rfl (by omega) (by omega)) ?_
      refine WO_load (.int _ _) Hvac.isAgg26 rfl (Hb.h (by repeat (first | assumption | exact Hb.newY _ _ | refine Hb.alloc ?_ | refine Hb.drew ?_ | refine Hb.ext (by assumption) ?_ | exact Hb.setSameL (by first | omega | (simp only [size_alloc, size_setB, size_drew]; omega)) | exact Hb.setSame (by assumption) | refine Hb.set (by first | omega | (simp only [size_alloc, size_setB, size_drew]; omega)) ?_ ))) (Ce.h (by first | assumption | exact ⟨rfl⟩)) ?_
      refine WO_p (PS_move_int rfl) ?_
      refine WO_call Hvac.call368 (by rfl) (Ret.mono (mulAdd_ex _ _ _ _ _ (by omega) (by omega) (by omega) (by omega)) ?_)
      rintro _ w368_4 ⟨hE368_4, lo9, hi9, rfl, hlo9, hhi9, hma9⟩
      have hz368_4 := hE368_4.1
      try simp only [size_alloc, size_setB, size_drew] at hz368_4
      refine WO_p (PS_move_tuple rfl) ?_
      refine WO_p (PS_extract_int rfl rfl) ?_
      refine WO_p (PS_extract_int rfl rfl) ?_
      refine WO_p (PS_assign_int rfl) ?_
      refine WO_p (PS_assign_int rfl) ?_
      refine WO_nil ?_
      refine thn_normal ?_
      refine W_seq ?_
      refine W_region rfl ?_
      refine WO_p (PS_move_int rfl) ?_
      refine WO_p (PS_move_int rfl) ?_
      refine WO_p (PS_add_i64n rfl rfl (by omega) (by omega)) ?_
      refine WO_p (PS_move_int rfl) ?_
      refine WO_p (PS_indexA Hvac.runUnderlying367 Hvac.sizeOf26 rfl rfl (by omega) (by omega)) ?_
      refine WO_storeX (b := b5) (T := 367) (L := P7) Hvac.sizeOf26 rfl rfl (Hb.mk (Hb.h (by repeat (first | assumption | exact Hb.newY _ _ | refine Hb.alloc ?_ | refine Hb.drew ?_ | refine Hb.ext (by assumption) ?_ | exact Hb.setSameL (by first | omega | (simp only [size_alloc, size_setB, size_drew]; omega)) | exact Hb.setSame (by assumption) | refine Hb.set (by first | omega | (simp only [size_alloc, size_setB, size_drew]; omega)) ?_ )))) (by omega) hlo9 ?_
      intro w10 P10 hU10 hPe10
      have hz10 := hU10.keep.sz
      refine WO_nil ?_
      refine thn_normal ?_
      refine W_region rfl ?_
      refine WO_p (PS_move_int rfl) ?_
      refine WO_p (PS_assign_int rfl) ?_
      refine WO_nil ?_
      refine inBlk_normal ?_
      refine thn_normal ?_
      refine W_region rfl ?_
      refine WO_p (PS_add_i64n rfl rfl (by omega) (by omega)) ?_
      refine WO_p (PS_move_int rfl) ?_
      refine WO_nil ?_
      refine thn_normal ?_
      exact ⟨m7 - 1, by omega, k + 1, P10, hi9, by omega, hU10.len.trans hp7, hU10.ty hP7, hhi9, ⟨by rw [hPe10, show 0 + ((i : Int) + k).toNat * 1 = i + k by omega]; exact ma_step (by omega) (hou7 _ (by omega)) hlv7 hma9, fun k' hk' => by rw [hPe10, getD_setI, if_neg (by omega)]; exact hou7 k' (by omega)⟩, ⟨rfl, rfl, rfl, rfl, rfl, rfl, rfl, rfl, rfl, rfl, congrArg (Value.int .i64) (by omega), trivial⟩, hU10.ext1 (by repeat (first | assumption | exact Ext.refl _ | refine Ext.alloc ?_ _ | refine Ext.drew ?_ | refine Ext.setB ?_ (by first | omega | (simp only [size_alloc, size_setB, size_drew]; omega)) _ | exact Ext.trans (by assumption) (by assumption) | refine Ext.trans ?_ (by assumption))) (by omega), by omega, hU10.other (Hb.mk (Hb.h (by repeat (first | assumption | exact Hb.newY _ _ | refine Hb.alloc ?_ | refine Hb.drew ?_ | refine Hb.ext (by assumption) ?_ | exact Hb.setSameL (by first | omega | (simp only [size_alloc, size_setB, size_drew]; omega)) | exact Hb.setSame (by assumption) | refine Hb.set (by first | omega | (simp only [size_alloc, size_setB, size_drew]; omega)) ?_ )))) (by omega), hU10.hb⟩
    · have hb4p := hb4.h; try simp only [al_ete, al_dfn, Bool.not_eq_true', Bool.not_eq_false', al_ne, Bool.not_not, al_nn] at hb4p
      refine W_exit ?_
      refine thn_exit ?_
      refine thn_exit ?_
      refine inBlk_exit ?_
      refine thn_normal ?_
      refine W_region rfl ?_
      refine WO_p (PS_move_int rfl) ?_
      refine WO_p (PS_add_i64n rfl rfl (by omega) (by omega)) ?_
      refine WO_p (PS_move_int rfl) ?_
      refine WO_p (PS_indexA Hvac.runUnderlying367 Hvac.sizeOf26 rfl rfl (by omega) (by omega)) ?_
      refine WO_storeX (b := b5) (T := 367) (L := P7) Hvac.sizeOf26 rfl rfl (Hb.mk (Hb.h (by repeat (first | assumption | exact Hb.newY _ _ | refine Hb.alloc ?_ | refine Hb.drew ?_ | refine Hb.ext (by assumption) ?_ | exact Hb.setSameL (by first | omega | (simp only [size_alloc, size_setB, size_drew]; omega)) | exact Hb.setSame (by assumption) | refine Hb.set (by first | omega | (simp only [size_alloc, size_setB, size_drew]; omega)) ?_ )))) (by omega) hcy ?_
      intro w13 P13 hU13 hPe13
      have hz13 := hU13.keep.sz
      refine WO_nil ?_
      refine inBlk_normal ?_
      refine thn_normal ?_
      refine W_region rfl ?_
      refine WO_p (PS_add_i64n rfl rfl (by omega) (by omega)) ?_
      refine WO_p (PS_move_int rfl) ?_
      refine WO_nil ?_
      refine thn_normal ?_
      exact ⟨m - 1, by omega, i + 1, P13, by omega, hU13.len.trans hp7, hU13.ty hP7, ma_row (by omega) hp7 hiz5 (fun k' hk' => hou7 k' (by omega)) (by rw [show k = 8 by omega] at hlv7; exact hlv7) hin5 (by rw [hPe13, show 0 + ((i : Int) + 8).toNat * 1 = i + 8 by omega]), ⟨rfl, rfl, rfl, rfl, rfl, congrArg (Value.int .i64) (by omega), trivial⟩, hU13.ext1 (by repeat (first | assumption | exact Ext.refl _ | refine Ext.alloc ?_ _ | refine Ext.drew ?_ | refine Ext.setB ?_ (by first | omega | (simp only [size_alloc, size_setB, size_drew]; omega)) _ | exact Ext.trans (by assumption) (by assumption) | refine Ext.trans ?_ (by assumption))) (by omega), by omega, hU13.other (Hb.mk (Hb.h (by repeat (first | assumption | exact Hb.newY _ _ | refine Hb.alloc ?_ | refine Hb.drew ?_ | refine Hb.ext (by assumption) ?_ | exact Hb.setSameL (by first | omega | (simp only [size_alloc, size_setB, size_drew]; omega)) | exact Hb.setSame (by assumption) | refine Hb.set (by first | omega | (simp only [size_alloc, size_setB, size_drew]; omega)) ?_ )))) (by omega), hU13.hb⟩
  · have hb2p := hb2.h; try simp only [al_ete, al_dfn, Bool.not_eq_true', Bool.not_eq_false', al_ne, Bool.not_not, al_nn] at hb2p
    refine W_exit ?_
    refine thn_exit ?_
    refine thn_exit ?_
    refine inBlk_exit ?_
    refine thn_normal ?_
    refine W_seq ?_
    have hpx : Xt (ic .u64 P5) 0 (0 + 16) (ic .u64 P5) := Xt.whole rfl (by rw [size_ic]; omega)
    have hps5 : (Value.agg (ic .u64 P5)).cells.size = 16 := by simp only [Value.cells, size_ic]; omega
    refine W_region rfl ?_
    refine WO_loadA _ Hvac.isAgg367 Hvac.sizeOf367 rfl (Hb.h (by repeat (first | assumption | exact Hb.newY _ _ | refine Hb.alloc ?_ | refine Hb.drew ?_ | refine Hb.ext (by assumption) ?_ | exact Hb.setSameL (by first | omega | (simp only [size_alloc, size_setB, size_drew]; omega)) | exact Hb.setSame (by assumption) | refine Hb.set (by first | omega | (simp only [size_alloc, size_setB, size_drew]; omega)) ?_ ))) (by first | omega | assumption | rfl | decide | exact Nat.le_refl _ | (simp only [size_ic, Value.cells]; omega) | (simp; omega) | simp) (Xt.h (by first | assumption | exact Xt.whole rfl rfl | exact Xt.whole rfl (by assumption) | exact Xt.whole rfl (by simp only [size_ic, Value.cells]; omega) | exact ⟨rfl⟩)) ?_
    refine WO_storeW Hvac.sizeOf367 rfl (v := .agg _) rfl (Hb.h (by repeat (first | assumption | exact Hb.newY _ _ | refine Hb.alloc ?_ | refine Hb.drew ?_ | refine Hb.ext (by assumption) ?_ | exact Hb.setSameL (by first | omega | (simp only [size_alloc, size_setB, size_drew]; omega)) | exact Hb.setSame (by assumption) | refine Hb.set (by first | omega | (simp only [size_alloc, size_setB, size_drew]; omega)) ?_ ))) rfl (by simp only [size_ic, Value.cells]; omega) (by simp only [size_ic]; omega) oneCell_ic ?_
    refine WO_nil ?_
    refine thn_normal ?_
    refine W_ret ?_
    refine bodyQ_cell1 Hvac.results328 rfl Hvac.isAgg367 Hvac.sizeOf367 rfl (Hb.h (by repeat (first | assumption | exact Hb.newY _ _ | refine Hb.alloc ?_ | refine Hb.drew ?_ | refine Hb.ext (by assumption) ?_ | exact Hb.setSameL (by first | omega | (simp only [size_alloc, size_setB, size_drew]; omega)) | exact Hb.setSame (by assumption) | refine Hb.set (by first | omega | (simp only [size_alloc, size_setB, size_drew]; omega)) ?_ ))) (by first | omega | assumption | rfl | decide | exact Nat.le_refl _ | (simp only [size_ic, Value.cells]; omega) | (simp; omega) | simp) ?_
    exact ⟨(by repeat (first | assumption | exact Ext.refl _ | refine Ext.alloc ?_ _ | refine Ext.drew ?_ | refine Ext.setB ?_ (by first | omega | (simp only [size_alloc, size_setB, size_drew]; omega)) _ | refine Ext.trans ?_ (by assumption))), P5, rfl, hp5, hP5, by rw [show i = 8 by omega] at hin5; exact hin5⟩

end Go.Proofs.YgvacwGreat
