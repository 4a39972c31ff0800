import Derived.Test.YgvacwGreatPd
namespace Go.Proofs.YgvacwGreat
set_option linter.unusedSimpArgs false
set_option linter.unusedVariables false
def be32N (n : Nat) : List Int := if n < 115792089237316195423570985008687907853269984665640564039457584007913129639936 then be 32 n else List.replicate 32 0
theorem be32N_by (n : Nat) : By (be32N n) 32 := by unfold be32N; split; exact ⟨be_len _ _, be_by _ _⟩; exact rep_by 32
theorem sz_lt256 {n : Nat} : n < 115792089237316195423570985008687907853269984665640564039457584007913129639936 ↔ sz n ≤ 32 := ⟨sz256, fun h => by have := lt_of_sz h; simpa using this⟩
theorem sz_lt64 {n : Nat} : n < 18446744073709551616 ↔ sz n ≤ 8 := ⟨sz64, fun h => by have := lt_of_sz h; simpa using this⟩
theorem or8 {x d : Int} (hd : 0 ≤ d ∧ d ≤ 255) (hx : 0 ≤ x) (h : x * 256 + 255 ≤ 18446744073709551615) : bOr ((x * 2 ^ 8) % 18446744073709551616) d = x * 256 + d := by
  have e : (x * 2 ^ 8) % 18446744073709551616 = x * 2 ^ 8 := Int.emod_eq_of_lt (by omega) (by omega)
  rw [e]
  have := bOr_shl (a := d) (b := x) 8 hd.1 (by omega) hx (by omega)
  have hc : bOr (x * 2 ^ 8) d = bOr d (x * 2 ^ 8) := by unfold bOr; rw [al_voc]
  rw [hc, this]; omega
def cmpI (a b : Nat) : Int := if a < b then -1 else if a = b then 0 else 1
theorem cmpI_bd (a b : Nat) : -1 ≤ cmpI a b ∧ cmpI a b ≤ 1 := by unfold cmpI; split; omega; split <;> omega
theorem cmpI_lt {a b : Nat} : cmpI a b < 0 ↔ a < b := by unfold cmpI; split; omega; split <;> omega
theorem cmpI_gt {a b : Nat} : 0 < cmpI a b ↔ b < a := by unfold cmpI; split; omega; split <;> omega
theorem cmpI_eq {a b : Nat} : cmpI a b = 0 ↔ a = b := by unfold cmpI; split; omega; split <;> omega
theorem dv_cmp {A B : List Int} (hA : ∀ x ∈ A, 0 ≤ x ∧ x ≤ 255) (hB : ∀ x ∈ B, 0 ≤ x ∧ x ≤ 255) (hl : A.length = B.length) {k : Nat} (hk : k < A.length) (he : ∀ q, k < q → q < A.length → A.getD q 0 = B.getD q 0) (hlt : A.getD k 0 < B.getD k 0) : dv A < dv B := by
  have e1 := dv_take A k (Nat.le_of_lt hk)
  have e2 := dv_take B k (by omega)
  rw [dv_drop A k hk] at e1
  rw [dv_drop B k (by omega)] at e2
  have e3 : dv (A.drop (k + 1)) = dv (B.drop (k + 1)) := dv_gdext (by simp [hl]) fun i hi => by
    simp at hi
    rw [gd_drop, gd_drop]; exact he _ (by omega) (by omega)
  have l1 := dv_lt (L := A.take k) fun x hx => hA x (List.mem_of_mem_take hx)
  rw [List.length_take, Nat.min_eq_left (by omega)] at l1
  have b1 := gd_by hA k
  have b2 := gd_by hB k
  have h3 : (A.getD k 0).toNat + 1 ≤ (B.getD k 0).toNat := by omega
  have h4 : 256 ^ k * ((A.getD k 0).toNat + 256 * dv (B.drop (k + 1)) + 1) ≤ 256 ^ k * ((B.getD k 0).toNat + 256 * dv (B.drop (k + 1))) := Nat.mul_le_mul_left _ (by omega)
  rw [Nat.mul_add, Nat.mul_one] at h4
  rw [e3] at e1
  omega
theorem bAnd8_one {x : Int} (h0 : 0 ≤ x) (h1 : x ≤ 255) : bAnd8 x 1 = x % 2 := by
  unfold bAnd8
  rw [BitVec.toNat_and, ofInt_toNat 8 x h0 (by omega), ofInt_toNat 8 1 (by decide) (by decide)]
  have : x.toNat &&& (1 : Int).toNat = x.toNat % 2 ^ 1 := Nat.and_two_pow_sub_one_eq_mod x.toNat 1
  rw [this]; omega
theorem bit_at {L : List Int} (h : ∀ x ∈ L, 0 ≤ x ∧ x ≤ 255) (i : Nat) : (L.getD (i / 8) 0 / 2 ^ (i % 8)) % 2 = ((dv L / 2 ^ i % 2 : Nat) : Int) := by
  rw [dv_gd h]
  have e1 : dv L / 256 ^ (i / 8) % 256 / 2 ^ (i % 8) % 2 = dv L / 2 ^ i % 2 := by
    have p1 : (256 : Nat) ^ (i / 8) = 2 ^ (8 * (i / 8)) := by rw [Nat.pow_mul]
    have p2 : 2 ^ i = 2 ^ (8 * (i / 8)) * 2 ^ (i % 8) := by rw [← Nat.pow_add]; congr 1; omega
    rw [p2, ← Nat.div_div_eq_div_mul, p1]
    generalize dv L / 2 ^ (8 * (i / 8)) = z
    have hr : i % 8 < 8 := Nat.mod_lt _ (by decide)
    generalize i % 8 = r at *
    match r, hr with
    | 0, _ => simp only [Nat.pow_zero, Nat.div_one]; omega
    | 1, _ => omega
    | 2, _ => omega
    | 3, _ => omega
    | 4, _ => omega
    | 5, _ => omega
    | 6, _ => omega
    | 7, _ => omega
  have e2 := congrArg (fun z : Nat => (z : Int)) e1
  rw [← e2]
  generalize dv L / 256 ^ (i / 8) % 256 = z
  rw [Int.natCast_emod, Int.natCast_ediv, Int.natCast_pow]
  rfl
theorem tb_dec (n i : Nat) : Nat.testBit n i = decide (n / 2 ^ i % 2 = 1) := Nat.testBit_eq_decide_div_mod_eq

set_option maxRecDepth 10000 in
set_option maxHeartbeats 4000000 in
theorem be32X_spec (s : SV) (L : List Int) (w : World) (hs : AB w s L) (hm : s.2.1 ≤ 100000000) : Ret Hvac.prog 102 #[.slice s.1 s.2.1 s.2.2] w fun u w' => Ext w w' ∧ u = .tuple #[.agg (ic .u8 (be32N (dv L))), .bool (decide (dv L < 115792089237316195423570985008687907853269984665640564039457584007913129639936))] := by
  obtain ⟨p, n, cp⟩ := s
  have hlc := hs.cap
  have hln := hs.len
  have hby := hs.by_
  dsimp only at hlc hln hby hm ⊢
  have htr := hs.trim
  dsimp only at htr
  obtain ⟨htA, htl⟩ := htr
  generalize hnn : dv L = nn at *
  refine Ret_of_W Hvac.func102 rfl rfl ?_
  refine W_seq ?_
  refine W_region rfl ?_
  refine WO_allocG Hvac.zeroValue27 ?_
  intro b2 v2 hg2 hE2 hH2 hl2
  try simp only [size_alloc, size_setB, size_drew] at hg2
  have hzz2 := hE2.1
  try simp only [size_alloc, size_setB, size_drew] at hzz2
  replace hH2 : Hb v2 b2 (.cells (ic .u8 (List.replicate 32 0)) 27 (0, 0)) := hH2
  refine WO_p (PS_assign_bool rfl) ?_
  refine WO_nil ?_
  refine thn_normal ?_
  refine W_seq ?_
  refine W_region rfl ?_
  refine WO_allocG Hvac.zeroValue27 ?_
  intro b4 v4 hg4 hE4 hH4 hl4
  try simp only [size_alloc, size_setB, size_drew] at hg4
  have hzz4 := hE4.1
  try simp only [size_alloc, size_setB, size_drew] at hzz4
  replace hH4 : Hb v4 b4 (.cells (ic .u8 (List.replicate 32 0)) 27 (0, 0)) := hH4
  refine WO_nil ?_
  refine thn_normal ?_
  refine W_seq ?_
  refine W_region rfl ?_
  refine WO_p (PS_move_slice rfl) ?_
  refine WO_call Hvac.call86 (by rfl) (Ret.mono (trimX_spec (p, n, cp) L _ (AB.ext hs (by repeat (first | assumption | exact Ext.refl _ | refine Ext.alloc ?_ _ | refine Ext.drew ?_ | refine Ext.setB ?_ (by first | omega | (simp only [size_alloc, size_setB, size_drew]; omega)) _ | exact Ext.trans (by assumption) (by assumption) | refine Ext.trans ?_ (by assumption)))) (by dsimp only; omega)) ?_)
  rintro _ w1 ⟨hE1, hu1⟩
  rw [hnn] at hu1
  subst hu1
  have hz1 := hE1.1
  refine WO_p (PS_assign_slice rfl) ?_
  refine WO_nil ?_
  refine thn_normal ?_
  refine W_seq ?_
  refine W_seq ?_
  refine W_region rfl ?_
  refine WO_p (PS_move_slice rfl) ?_
  refine WO_p (PS_lenS Hvac.runUnderlying92 rfl) ?_
  refine WO_p (PS_gtr rfl rfl) ?_
  refine WO_nil ?_
  refine thn_normal ?_
  refine W_if rfl (fun hb3 => ?_) (fun hb3 => ?_)
  · have hb3p := hb3.h; try simp only [al_ete, al_dfn, Bool.not_eq_true', Bool.not_eq_false', al_ne, Bool.not_not, al_nn] at hb3p
    have hbig : ¬ nn < 115792089237316195423570985008687907853269984665640564039457584007913129639936 := by rw [sz_lt256]; omega
    refine W_seq ?_
    refine W_region rfl ?_
    refine WO_loadA _ Hvac.isAgg27 Hvac.sizeOf27 rfl (Hb.h (by repeat (first | assumption | exact Hb.newY _ _ | refine Hb.alloc ?_ | refine Hb.drew ?_ | refine Hb.ext (by assumption) ?_ | exact Hb.setSameL (by first | omega | (simp only [size_alloc, size_setB, size_drew]; omega)) | exact Hb.setSame (by assumption) | refine Hb.set (by first | omega | (simp only [size_alloc, size_setB, size_drew]; omega)) ?_ ))) (by first | omega | assumption | rfl | decide | exact Nat.le_refl _ | (simp only [size_ic, Value.cells]; omega) | simp) (Xt.h (by first | assumption | exact Xt.whole rfl rfl | exact Xt.whole rfl (by simp only [size_ic, Value.cells]; omega) | exact ⟨rfl⟩)) ?_
    first | refine WO_storeW Hvac.sizeOf27 rfl (v := .agg _) rfl (Hb.h (by repeat (first | assumption | exact Hb.newY _ _ | refine Hb.alloc ?_ | refine Hb.drew ?_ | refine Hb.ext (by assumption) ?_ | exact Hb.setSameL (by first | omega | (simp only [size_alloc, size_setB, size_drew]; omega)) | exact Hb.setSame (by assumption) | refine Hb.set (by first | omega | (simp only [size_alloc, size_setB, size_drew]; omega)) ?_ ))) rfl (by first | omega | assumption | rfl | decide | exact Nat.le_refl _ | (simp only [size_ic, Value.cells]; omega) | simp) (by first | omega | assumption | rfl | decide | exact Nat.le_refl _ | (simp only [size_ic, Value.cells]; omega) | simp) (by first | exact oneCell_ic | assumption) ?_ | refine WO_store Hvac.sizeOf27 rfl (v := .agg _) rfl (Hb.h (by repeat (first | assumption | exact Hb.newY _ _ | refine Hb.alloc ?_ | refine Hb.drew ?_ | refine Hb.ext (by assumption) ?_ | exact Hb.setSameL (by first | omega | (simp only [size_alloc, size_setB, size_drew]; omega)) | exact Hb.setSame (by assumption) | refine Hb.set (by first | omega | (simp only [size_alloc, size_setB, size_drew]; omega)) ?_ ))) (by first | omega | assumption | rfl | decide | exact Nat.le_refl _ | (simp only [size_ic, Value.cells]; omega) | simp) (by first | omega | assumption | rfl | decide | exact Nat.le_refl _ | (simp only [size_ic, Value.cells]; omega) | simp) (by first | exact oneCell_ic | assumption) ?_
    refine WO_p (PS_assign_bool rfl) ?_
    refine WO_nil ?_
    refine thn_normal ?_
    refine W_ret ?_
    refine thn_ret ?_
    refine bodyQ_cellT (.bool _) Hvac.results102 rfl rfl Hvac.isAgg27 Hvac.sizeOf27 rfl (Hb.h (by repeat (first | assumption | exact Hb.newY _ _ | refine Hb.alloc ?_ | refine Hb.drew ?_ | refine Hb.ext (by assumption) ?_ | exact Hb.setSameL (by first | omega | (simp only [size_alloc, size_setB, size_drew]; omega)) | exact Hb.setSame (by assumption) | refine Hb.set (by first | omega | (simp only [size_alloc, size_setB, size_drew]; omega)) ?_ ))) (by first | omega | assumption | rfl | decide | exact Nat.le_refl _ | (simp only [size_ic, Value.cells]; omega) | simp) rfl ?_
    first
    | (have hMe : List.replicate 32 0 = be32N nn := by unfold be32N; rw [if_neg hbig]
       refine ⟨(by repeat (first | assumption | exact Ext.refl _ | refine Ext.alloc ?_ _ | refine Ext.drew ?_ | refine Ext.setB ?_ (by first | omega | (simp only [size_alloc, size_setB, size_drew]; omega)) _ | refine Ext.trans ?_ (by assumption))), ?_⟩
       rw [al_ef hbig, ← hMe]; rfl)
    | (have hMe : M = be32N nn := by
         unfold be32N
         rw [if_pos hsm]
         refine gd_ext (by rw [hL.1, be_len]) fun q hq => ?_
         rw [hL.1] at hq
         rw [hdone q hq, be_gd _ _ _ hq, ← dg_gd]
         split
         · congr 1
         · rw [gd_ge (by rw [dg_len]; omega)]
       refine ⟨(by repeat (first | assumption | exact Ext.refl _ | refine Ext.alloc ?_ _ | refine Ext.drew ?_ | refine Ext.setB ?_ (by first | omega | (simp only [size_alloc, size_setB, size_drew]; omega)) _ | refine Ext.trans ?_ (by assumption))), ?_⟩
       rw [al_et hsm, ← hMe]; rfl)
  · have hb3p := hb3.h; try simp only [al_ete, al_dfn, Bool.not_eq_true', Bool.not_eq_false', al_ne, Bool.not_not, al_nn] at hb3p
    have hsm : nn < 115792089237316195423570985008687907853269984665640564039457584007913129639936 := by rw [sz_lt256]; omega
    refine W_skip ?_
    refine thn_normal ?_
    refine W_seq ?_
    refine W_seq ?_
    refine W_region rfl ?_
    refine WO_p (PS_move_slice rfl) ?_
    refine WO_p (PS_lenS Hvac.runUnderlying92 rfl) ?_
    refine WO_p (PS_move_int rfl) ?_
    refine WO_nil ?_
    refine thn_normal ?_
    refine W_block ?_
    refine W_loopN (fun k ρ w' => ∃ (j : Nat) (M : List Int), j + k = sz nn ∧ By M 32 ∧ M.length = 32 ∧ (∀ q, q < 32 → M.getD q 0 = if 31 - q < j then (dg nn).getD (31 - q) 0 else 0) ∧ Fr [(2, .pointer (some ⟨b2, 0, none⟩)), (4, .pointer (some ⟨b4, 0, none⟩)), (13, .slice p (sz nn) (sz nn)), (14, .int .i64 (sz nn)), (15, .int .i64 j)] ρ ∧ Ext w w' ∧ Hb w' b4 (.cells (ic .u8 M) 27 (0, 0)) ∧ Hb w' b2 (.cells (ic .u8 (List.replicate 32 0)) 27 (0, 0))) (sz nn) ?_ ?_
    · exact ⟨0, List.replicate 32 0, by omega, rep_by 32, rfl, fun q h => by rw [gd_rep, if_neg (by omega)], ⟨rfl, rfl, rfl, rfl, rfl, trivial⟩, (by repeat (first | assumption | exact Ext.refl _ | refine Ext.alloc ?_ _ | refine Ext.drew ?_ | refine Ext.setB ?_ (by first | omega | (simp only [size_alloc, size_setB, size_drew]; omega)) _ | refine Ext.trans ?_ (by assumption))), Hb.mk (Hb.h (by repeat (first | assumption | exact Hb.newY _ _ | refine Hb.alloc ?_ | refine Hb.drew ?_ | refine Hb.ext (by assumption) ?_ | exact Hb.setSameL (by first | omega | (simp only [size_alloc, size_setB, size_drew]; omega)) | exact Hb.setSame (by assumption) | refine Hb.set (by first | omega | (simp only [size_alloc, size_setB, size_drew]; omega)) ?_ ))), Hb.mk (Hb.h (by repeat (first | assumption | exact Hb.newY _ _ | refine Hb.alloc ?_ | refine Hb.drew ?_ | refine Hb.ext (by assumption) ?_ | exact Hb.setSameL (by first | omega | (simp only [size_alloc, size_setB, size_drew]; omega)) | exact Hb.setSame (by assumption) | refine Hb.set (by first | omega | (simp only [size_alloc, size_setB, size_drew]; omega)) ?_ )))⟩
    intro k2 ρ2 w2 hI2
    obtain ⟨j, M, hjk, hL, hLl, hdone, hFr2, hE2, hbp2, hbq2⟩ := hI2
    refine W_env _ hFr2 ?_
    have hz2 := hE2.1
    refine W_seq ?_
    refine W_region rfl ?_
    refine WO_p (PS_lss rfl rfl) ?_
    refine WO_nil ?_
    refine thn_normal ?_
    refine W_seq ?_
    refine W_if rfl (fun hb5 => ?_) (fun hb5 => ?_)
    · have hb5p := hb5.h; try simp only [al_ete, al_dfn, Bool.not_eq_true', Bool.not_eq_false', al_ne, Bool.not_not, al_nn] at hb5p
      obtain ⟨b, o, r, T, fz, hp, hb, hrs, hat⟩ := htA.at_ (by omega)
      subst hp
      have hce := hat j (by omega)
      have hbE := hb.ext hE2
      have hgb := gd_by (dg_by nn) j
      refine W_skip ?_
      refine thn_normal ?_
      refine W_seq ?_
      refine W_block ?_
      refine W_seq ?_
      refine W_region rfl ?_
      refine WO_p (PS_move_int rfl) ?_
      refine WO_p (PS_indexS Hvac.runUnderlying92 Hvac.sizeOf5 rfl rfl (by omega) (by omega)) ?_
      refine WO_load (.int _ _) Hvac.isAgg5 rfl (Hb.h (by repeat (first | assumption | exact Hb.newY _ _ | refine Hb.alloc ?_ | refine Hb.drew ?_ | refine Hb.ext (by assumption) ?_ | exact Hb.setSameL (by first | omega | (simp only [size_alloc, size_setB, size_drew]; omega)) | exact Hb.setSame (by assumption) | refine Hb.set (by first | omega | (simp only [size_alloc, size_setB, size_drew]; omega)) ?_ ))) (Ce.h (by first | assumption | exact ⟨rfl⟩)) ?_
      refine WO_p (PS_assign_int rfl) ?_
      refine WO_p (PS_assign_int rfl) ?_
      refine WO_nil ?_
      refine thn_normal ?_
      refine W_region rfl ?_
      refine WO_p (PS_move_int rfl) ?_
      refine WO_p (PS_sub_i64n rfl rfl (by omega) (by omega)) ?_
      refine WO_p (PS_move_int rfl) ?_
      refine WO_p (PS_indexA Hvac.runUnderlying27 Hvac.sizeOf5 rfl rfl (by omega) (by omega)) ?_
      refine WO_store1 Hvac.sizeOf5 rfl (v := .int _ _) rfl hbp2.h rfl (by rw [size_ic, hL.1]; omega) rfl ?_
      rw [show ((31:Int) - (j : Int)).toNat = 31 - j by omega, ic_set]
      refine WO_nil ?_
      refine inBlk_normal ?_
      refine thn_normal ?_
      refine W_region rfl ?_
      refine WO_p (PS_add_i64n rfl rfl (by omega) (by omega)) ?_
      refine WO_p (PS_move_int rfl) ?_
      refine WO_nil ?_
      refine thn_normal ?_
      exact ⟨k2 - 1, by omega, j + 1, _, by omega, set_by hL hgb, (set_by hL hgb).1, fun q hq => by
        rw [gd_set _ _ _ _ (by rw [hL.1]; omega)]
        split
        · rename_i e; rw [e, if_pos (by omega)]; congr 1; omega
        · rw [hdone q hq]
          by_cases h9 : 31 - q < j
          · rw [if_pos h9, if_pos (by omega)]
          · rw [if_neg h9, if_neg (by omega)], ⟨rfl, rfl, rfl, rfl, congrArg (Value.int .i64) (by omega), trivial⟩, Ext.setB hE2 (by omega) _, Hb.setSame hbp2, Hb.set (by omega) hbq2⟩
    · have hb5p := hb5.h; try simp only [al_ete, al_dfn, Bool.not_eq_true', Bool.not_eq_false', al_ne, Bool.not_not, al_nn] at hb5p
      refine W_exit ?_
      refine thn_exit ?_
      refine thn_exit ?_
      refine inBlk_exit ?_
      refine thn_normal ?_
      refine W_seq ?_
      refine W_region rfl ?_
      refine WO_loadA _ Hvac.isAgg27 Hvac.sizeOf27 rfl (Hb.h (by repeat (first | assumption | exact Hb.newY _ _ | refine Hb.alloc ?_ | refine Hb.drew ?_ | refine Hb.ext (by assumption) ?_ | exact Hb.setSameL (by first | omega | (simp only [size_alloc, size_setB, size_drew]; omega)) | exact Hb.setSame (by assumption) | refine Hb.set (by first | omega | (simp only [size_alloc, size_setB, size_drew]; omega)) ?_ ))) (by first | omega | assumption | rfl | decide | exact Nat.le_refl _ | (simp only [size_ic, Value.cells]; omega) | simp) (Xt.h (by first | assumption | exact Xt.whole rfl rfl | exact Xt.whole rfl (by simp only [size_ic, Value.cells]; omega) | exact ⟨rfl⟩)) ?_
      first | refine WO_storeW Hvac.sizeOf27 rfl (v := .agg _) rfl (Hb.h (by repeat (first | assumption | exact Hb.newY _ _ | refine Hb.alloc ?_ | refine Hb.drew ?_ | refine Hb.ext (by assumption) ?_ | exact Hb.setSameL (by first | omega | (simp only [size_alloc, size_setB, size_drew]; omega)) | exact Hb.setSame (by assumption) | refine Hb.set (by first | omega | (simp only [size_alloc, size_setB, size_drew]; omega)) ?_ ))) rfl (by first | omega | assumption | rfl | decide | exact Nat.le_refl _ | (simp only [size_ic, Value.cells]; omega) | simp) (by first | omega | assumption | rfl | decide | exact Nat.le_refl _ | (simp only [size_ic, Value.cells]; omega) | simp) (by first | exact oneCell_ic | assumption) ?_ | refine WO_store Hvac.sizeOf27 rfl (v := .agg _) rfl (Hb.h (by repeat (first | assumption | exact Hb.newY _ _ | refine Hb.alloc ?_ | refine Hb.drew ?_ | refine Hb.ext (by assumption) ?_ | exact Hb.setSameL (by first | omega | (simp only [size_alloc, size_setB, size_drew]; omega)) | exact Hb.setSame (by assumption) | refine Hb.set (by first | omega | (simp only [size_alloc, size_setB, size_drew]; omega)) ?_ ))) (by first | omega | assumption | rfl | decide | exact Nat.le_refl _ | (simp only [size_ic, Value.cells]; omega) | simp) (by first | omega | assumption | rfl | decide | exact Nat.le_refl _ | (simp only [size_ic, Value.cells]; omega) | simp) (by first | exact oneCell_ic | assumption) ?_
      refine WO_p (PS_assign_bool rfl) ?_
      refine WO_nil ?_
      refine thn_normal ?_
      refine W_ret ?_
      refine bodyQ_cellT (.bool _) Hvac.results102 rfl rfl Hvac.isAgg27 Hvac.sizeOf27 rfl (Hb.h (by repeat (first | assumption | exact Hb.newY _ _ | refine Hb.alloc ?_ | refine Hb.drew ?_ | refine Hb.ext (by assumption) ?_ | exact Hb.setSameL (by first | omega | (simp only [size_alloc, size_setB, size_drew]; omega)) | exact Hb.setSame (by assumption) | refine Hb.set (by first | omega | (simp only [size_alloc, size_setB, size_drew]; omega)) ?_ ))) (by first | omega | assumption | rfl | decide | exact Nat.le_refl _ | (simp only [size_ic, Value.cells]; omega) | simp) rfl ?_
      first
      | (have hMe : List.replicate 32 0 = be32N nn := by unfold be32N; rw [if_neg hbig]
         refine ⟨(by repeat (first | assumption | exact Ext.refl _ | refine Ext.alloc ?_ _ | refine Ext.drew ?_ | refine Ext.setB ?_ (by first | omega | (simp only [size_alloc, size_setB, size_drew]; omega)) _ | refine Ext.trans ?_ (by assumption))), ?_⟩
         rw [al_ef hbig, ← hMe]; rfl)
      | (have hMe : M = be32N nn := by
           unfold be32N
           rw [if_pos hsm]
           refine gd_ext (by rw [hL.1, be_len]) fun q hq => ?_
           rw [hL.1] at hq
           rw [hdone q hq, be_gd _ _ _ hq, ← dg_gd]
           split
           · congr 1
           · rw [gd_ge (by rw [dg_len]; omega)]
         refine ⟨(by repeat (first | assumption | exact Ext.refl _ | refine Ext.alloc ?_ _ | refine Ext.drew ?_ | refine Ext.setB ?_ (by first | omega | (simp only [size_alloc, size_setB, size_drew]; omega)) _ | refine Ext.trans ?_ (by assumption))), ?_⟩
         rw [al_et hsm, ← hMe]; rfl)

end Go.Proofs.YgvacwGreat
