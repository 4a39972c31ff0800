import Derived.Test.YgvacwGreatHs
namespace Go.Proofs.YgvacwGreat
set_option linter.unusedSimpArgs false
set_option linter.unusedVariables false
/-! the precompiled contracts of the specification -/
def ynb (n : Nat) : Nat := if n = 0 then 0 else n.log2 + 1
theorem ynb_of {n k : Nat} (h : n < 2 ^ k) (h2 : k = 0 ∨ 2 ^ (k - 1) ≤ n) : k = ynb n := by
  unfold ynb
  rcases h2 with h2 | h2
  · subst h2; rw [if_pos (by simpa using h)]
  · have hn : n ≠ 0 := by have := Nat.pow_pos (n := k - 1) (show 0 < 2 by decide); omega
    rw [if_neg hn]
    have h3 := (Nat.le_log2 hn).2 h2
    have h4 := (Nat.log2_lt hn).2 h
    omega
theorem ynb_lt (n : Nat) : n < 2 ^ ynb n := by
  unfold ynb
  split
  · rename_i h; subst h; decide
  · rename_i h; exact (Nat.log2_lt h).1 (Nat.lt_succ_self _)
theorem tb_lt {n k : Nat} (h : n < 2 ^ (k + 1)) (h2 : Nat.testBit n k = false) : n < 2 ^ k := by
  rw [Nat.testBit_eq_decide_div_mod_eq, al_dfn] at h2
  rw [Nat.pow_succ] at h
  have h3 : n / 2 ^ k < 2 := (Nat.div_lt_iff_lt_mul (Nat.pow_pos (by decide))).2 (by rw [Nat.mul_comm]; exact h)
  have h4 : n / 2 ^ k = 0 := by
    revert h2 h3
    generalize n / 2 ^ k = z
    omega
  rcases Nat.div_eq_zero_iff.1 h4 with h5 | h5
  · have := Nat.pow_pos (n := k) (show 0 < 2 by decide); omega
  · exact h5
theorem tb_le {n k : Nat} (h2 : Nat.testBit n k = true) : 2 ^ k ≤ n := by
  rcases Nat.lt_or_ge n (2 ^ k) with h | h
  · rw [Nat.testBit_eq_decide_div_mod_eq, Nat.div_eq_of_lt h] at h2; simp at h2
  · exact h
theorem lt_bits (n : Nat) : n < 2 ^ (8 * sz n) := by have := lt_sz n; rw [Nat.pow_mul]; exact this
theorem ynb_le (n : Nat) : ynb n ≤ 8 * sz n := by
  unfold ynb
  split
  · omega
  · rename_i h
    have := (Nat.log2_lt h).2 (lt_bits n)
    omega
def ymd (x m : Nat) : Nat := if m = 0 then 0 else x % m
def ymodexp (b e m : Nat) : Nat := ymd (b ^ e) m
theorem ymd_sq (b q m : Nat) : ymd (ymd (b ^ q) m * ymd (b ^ q) m) m = ymd (b ^ (2 * q)) m := by
  unfold ymd
  split
  · rfl
  · rw [← Nat.mul_mod, ← Nat.pow_add]; congr 2; omega
theorem ymd_mul (b q m : Nat) : ymd (ymd (b ^ (2 * q)) m * b) m = ymd (b ^ (2 * q + 1)) m := by
  unfold ymd
  split
  · rfl
  · rw [Nat.pow_succ, Nat.mul_mod, Nat.mod_mod, ← Nat.mul_mod]
theorem sz_ymd (x m : Nat) : sz (ymd x m) ≤ sz m := by
  unfold ymd
  split
  · rw [sz_zero]; omega
  · rename_i h; exact sz_mono (Nat.le_of_lt (Nat.mod_lt _ (Nat.pos_of_ne_zero h)))
def ylen1 (I : List Int) (i : Nat) : Nat := bvY (ycut I (32 * i) 32)
abbrev ylenOk (I : List Int) : Prop := ylen1 I 0 ≤ 64 ∧ ylen1 I 1 ≤ 64 ∧ ylen1 I 2 ≤ 64
def ylenV (I : List Int) (i : Nat) : Nat := if ylenOk I then ylen1 I i else 0

set_option maxRecDepth 10000 in
set_option maxHeartbeats 4000000 in
theorem yPart_spec [Om] (w : World) (hO : OmB w) (p : Option Addr) (sn sc : Nat) (I : List Int) (hI : AB w (p, sn, sc) I) (hsn : sn ≤ 1000000) (o n : Nat) (ho : o ≤ 1000000) (hn : n ≤ 1000000) : Ret Hvac.prog 195 #[.slice p sn sc, .int .u64 (o : Int), .int .u64 (n : Int)] w fun u w' => Ext w w' ∧ ∃ s' : SV, u = .slice s'.1 s'.2.1 s'.2.2 ∧ PB w' s' (ycut I o n) := by
  refine Ret_of_W Hvac.func195 rfl rfl ?_
  refine W_seq ?_
  refine W_region rfl ?_
  refine WO_p (PS_assign_slice rfl) ?_
  refine WO_nil ?_
  refine thn_normal ?_
  refine W_seq ?_
  refine W_region rfl ?_
  refine WO_p (PS_move_slice rfl) ?_
  refine WO_p (PS_move_int rfl) ?_
  refine WO_call Hvac.call19 (by rfl) (Ret.mono (nNum_spec (OmB.ext hO (by repeat (first | assumption | exact Ext.refl _ | refine Ext.alloc ?_ _ | refine Ext.drew ?_ | refine Ext.setB ?_ (by first | omega | (simp only [size_alloc, size_setB, size_drew]; omega)) _ | exact Ext.trans (by assumption) (by assumption) | refine Ext.trans ?_ (by assumption)))) ⟨by omega, by omega⟩) ?_)
  rintro _ w19_0 ⟨hE19_0, s19_0, rfl, hN19_0, hs19_0⟩
  have hz19_0 := hE19_0.1
  try simp only [size_alloc, size_setB, size_drew] at hz19_0
  try simp only [Int.toNat_natCast, toNat_lit] at hN19_0 hs19_0
  refine WO_p (PS_move_int rfl) ?_
  refine WO_call Hvac.call19 (by rfl) (Ret.mono (nNum_spec (OmB.ext hO (by repeat (first | assumption | exact Ext.refl _ | refine Ext.alloc ?_ _ | refine Ext.drew ?_ | refine Ext.setB ?_ (by first | omega | (simp only [size_alloc, size_setB, size_drew]; omega)) _ | exact Ext.trans (by assumption) (by assumption) | refine Ext.trans ?_ (by assumption)))) ⟨by omega, by omega⟩) ?_)
  rintro _ w19_1 ⟨hE19_1, s19_1, rfl, hN19_1, hs19_1⟩
  have hz19_1 := hE19_1.1
  try simp only [size_alloc, size_setB, size_drew] at hz19_1
  try simp only [Int.toNat_natCast, toNat_lit] at hN19_1 hs19_1
  refine WO_call Hvac.call120 (by rfl) (Ret.mono (yCut_spec _ (OmB.ext hO (by repeat (first | assumption | exact Ext.refl _ | refine Ext.alloc ?_ _ | refine Ext.drew ?_ | refine Ext.setB ?_ (by first | omega | (simp only [size_alloc, size_setB, size_drew]; omega)) _ | exact Ext.trans (by assumption) (by assumption) | refine Ext.trans ?_ (by assumption)))) _ _ _ _ (by first | assumption | exact AB.ext (by assumption) (by repeat (first | assumption | exact Ext.refl _ | refine Ext.alloc ?_ _ | refine Ext.drew ?_ | refine Ext.setB ?_ (by first | omega | (simp only [size_alloc, size_setB, size_drew]; omega)) _ | exact Ext.trans (by assumption) (by assumption) | refine Ext.trans ?_ (by assumption))) | exact PB.ab (by assumption) | exact PB.ab (PB.ext (by assumption) (by repeat (first | assumption | exact Ext.refl _ | refine Ext.alloc ?_ _ | refine Ext.drew ?_ | refine Ext.setB ?_ (by first | omega | (simp only [size_alloc, size_setB, size_drew]; omega)) _ | exact Ext.trans (by assumption) (by assumption) | refine Ext.trans ?_ (by assumption))))) (by omega) _ _ _ _ (by first | exact NN.nil _ | assumption | exact NN.ext (by assumption) (by repeat (first | assumption | exact Ext.refl _ | refine Ext.alloc ?_ _ | refine Ext.drew ?_ | refine Ext.setB ?_ (by first | omega | (simp only [size_alloc, size_setB, size_drew]; omega)) _ | exact Ext.trans (by assumption) (by assumption) | refine Ext.trans ?_ (by assumption)))) (by first | assumption | omega | (rw [sz_zero]; omega)) _ _ _ _ (by first | exact NN.nil _ | assumption | exact NN.ext (by assumption) (by repeat (first | assumption | exact Ext.refl _ | refine Ext.alloc ?_ _ | refine Ext.drew ?_ | refine Ext.setB ?_ (by first | omega | (simp only [size_alloc, size_setB, size_drew]; omega)) _ | exact Ext.trans (by assumption) (by assumption) | refine Ext.trans ?_ (by assumption)))) (by first | assumption | omega | (rw [sz_zero]; omega)) (by omega)) ?_)
  rintro _ w9 ⟨hE9, s9, rfl, hN9⟩
  have hz9 := hE9.1
  try simp only [size_alloc, size_setB, size_drew] at hz9
  refine WO_p (PS_assign_slice rfl) ?_
  refine WO_nil ?_
  refine thn_normal ?_
  refine W_ret ?_
  refine bodyQ_ret1 Hvac.results195 rfl (.slice _ _ _) rfl ?_
  exact ⟨(by repeat (first | assumption | exact Ext.refl _ | refine Ext.alloc ?_ _ | refine Ext.drew ?_ | refine Ext.setB ?_ (by first | omega | (simp only [size_alloc, size_setB, size_drew]; omega)) _ | refine Ext.trans ?_ (by assumption))), s9, rfl, hN9⟩

set_option maxRecDepth 10000 in
set_option maxHeartbeats 4000000 in
theorem yBits_spec [Om] (w : World) (hO : OmB w) (ap : Option Addr) (an acY a : Nat) (ha : NN w (ap, an, acY) a) (za : sz a ≤ 8000): Ret Hvac.prog 194 #[.slice ap an acY] w fun u w' => Ext w w' ∧ u = .int .u64 (ynb a : Int) := by
  have han := ha.szl
  subst han
  refine Ret_of_W Hvac.func194 rfl rfl ?_
  refine W_seq ?_
  refine W_region rfl ?_
  refine WO_p (PS_assign_int rfl) ?_
  refine WO_nil ?_
  refine thn_normal ?_
  refine W_seq ?_
  refine W_region rfl ?_
  refine WO_p (PS_move_slice rfl) ?_
  refine WO_p (PS_lenS Hvac.runUnderlying92 rfl) ?_
  refine WO_p (PS_mul_i64n rfl rfl (by omega) (by omega)) ?_
  refine WO_p (PS_assign_int rfl) ?_
  refine WO_nil ?_
  refine thn_normal ?_
  refine W_seq ?_
  refine W_block ?_
  refine W_loopN (fun k ρ w' => ∃ (i : Nat), i = k ∧ i ≤ 8 * sz a ∧ a < 2 ^ i ∧ Fr [(0, .slice ap (sz a) acY), (3, .int .i64 i)] ρ ∧ Ext w w') (8 * sz a) ?_ ?_
  · exact ⟨8 * sz a, rfl, Nat.le_refl _, lt_bits a, ⟨rfl, congrArg (Value.int .i64) (by omega), trivial⟩, (by repeat (first | assumption | exact Ext.refl _ | refine Ext.alloc ?_ _ | refine Ext.drew ?_ | refine Ext.setB ?_ (by first | omega | (simp only [size_alloc, size_setB, size_drew]; omega)) _ | refine Ext.trans ?_ (by assumption)))⟩
  intro k2 ρ2 w2 hI2
  obtain ⟨i, hik, hi8, hlt, hFr2, hE2⟩ := hI2
  refine W_env _ hFr2 ?_
  have hz2 := hE2.1
  refine W_seq ?_
  refine W_seq ?_
  refine W_region rfl ?_
  refine WO_p (PS_move_int rfl) ?_
  refine WO_p (PS_gtr rfl rfl) ?_
  refine WO_p (PS_move_bool rfl) ?_
  refine WO_if (t := 9) rfl (fun hb2 => ?_) (fun hb2 => ?_)
  · have hb2p := hb2.h; try simp only [al_ete, al_dfn, Bool.not_eq_true', Bool.not_eq_false', al_ne, Bool.not_not, al_nn] at hb2p
    refine WO_guardT rfl rfl hb2.h ?_
    refine WO_p (PS_move_slice rfl) ?_
    refine WO_guardT rfl rfl hb2.h ?_
    refine WO_p (PS_move_int rfl) ?_
    refine WO_guardT rfl rfl hb2.h ?_
    refine WO_p (PS_sub_i64n rfl rfl (by omega) (by omega)) ?_
    refine WO_guardT rfl rfl hb2.h ?_
    refine WO_p (PS_conv_u16n Hvac.runUnderlying3 Hvac.runUnderlying42 rfl (by omega) (by omega)) ?_
    rw [show (i : Int) - 1 = ((i - 1 : Nat) : Int) by omega]
    refine WO_guardT rfl rfl hb2.h ?_
    refine WO_call Hvac.call294 (by rfl) (Ret.mono (nBit_spec (i := i - 1) (by first | exact NN.nil _ | assumption | exact NN.ext (by assumption) (by repeat (first | assumption | exact Ext.refl _ | refine Ext.alloc ?_ _ | refine Ext.drew ?_ | refine Ext.setB ?_ (by first | omega | (simp only [size_alloc, size_setB, size_drew]; omega)) _ | exact Ext.trans (by assumption) (by assumption) | refine Ext.trans ?_ (by assumption)))) (by first | assumption | omega | (rw [sz_zero]; omega)) (by omega)) ?_)
    rintro _ w294_2 ⟨hE294_2, rfl⟩
    have hz294_2 := hE294_2.1
    try simp only [size_alloc, size_setB, size_drew] at hz294_2
    refine WO_guardT rfl rfl hb2.h ?_
    refine WO_p (PS_not rfl) ?_
    refine WO_p (PS_pickT rfl hb2.h rfl) ?_
    refine WO_nil ?_
    refine thn_normal ?_
    refine W_if rfl (fun hb6 => ?_) (fun hb6 => ?_)
    · have hb6p := hb6.h; try simp only [al_ete, al_dfn, Bool.not_eq_true', Bool.not_eq_false', al_ne, Bool.not_not, al_nn] at hb6p
      have htb : a < 2 ^ (i - 1) := tb_lt (by rw [show i - 1 + 1 = i by omega]; exact hlt) (by simpa using hb6p)
      refine W_skip ?_
      refine thn_normal ?_
      refine W_block ?_
      refine W_region rfl ?_
      refine WO_p (PS_move_int rfl) ?_
      refine WO_p (PS_sub_i64n rfl rfl (by omega) (by omega)) ?_
      refine WO_p (PS_assign_int rfl) ?_
      refine WO_nil ?_
      refine inBlk_normal ?_
      refine thn_normal ?_
      exact ⟨k2 - 1, by omega, i - 1, by omega, by omega, htb, ⟨rfl, congrArg (Value.int .i64) (by omega), trivial⟩, (by repeat (first | assumption | exact Ext.refl _ | refine Ext.alloc ?_ _ | refine Ext.drew ?_ | refine Ext.setB ?_ (by first | omega | (simp only [size_alloc, size_setB, size_drew]; omega)) _ | refine Ext.trans ?_ (by assumption)))⟩
    · have hb6p := hb6.h; try simp only [al_ete, al_dfn, Bool.not_eq_true', Bool.not_eq_false', al_ne, Bool.not_not, al_nn] at hb6p
      have hz0 : i = 0 ∨ 2 ^ (i - 1) ≤ a := Or.inr (tb_le (by simpa using hb6p))
      refine W_exit ?_
      refine thn_exit ?_
      refine thn_exit ?_
      refine inBlk_exit ?_
      refine thn_normal ?_
      refine W_seq ?_
      refine W_region rfl ?_
      refine WO_p (PS_move_int rfl) ?_
      refine WO_p (PS_conv_u64n Hvac.runUnderlying3 Hvac.runUnderlying26 rfl (by omega) (by omega)) ?_
      refine WO_p (PS_assign_int rfl) ?_
      refine WO_nil ?_
      refine thn_normal ?_
      refine W_ret ?_
      refine bodyQ_ret1 Hvac.results194 rfl (.int _ _) rfl ?_
      have hie := ynb_of hlt hz0
      exact ⟨(by repeat (first | assumption | exact Ext.refl _ | refine Ext.alloc ?_ _ | refine Ext.drew ?_ | refine Ext.setB ?_ (by first | omega | (simp only [size_alloc, size_setB, size_drew]; omega)) _ | refine Ext.trans ?_ (by assumption))), by rw [← hie]⟩
  · have hb2p := hb2.h; try simp only [al_ete, al_dfn, Bool.not_eq_true', Bool.not_eq_false', al_ne, Bool.not_not, al_nn] at hb2p
    have hz0 : i = 0 ∨ 2 ^ (i - 1) ≤ a := Or.inl (by omega)
    refine WO_guardF rfl rfl hb2.h ?_
    refine WO_guardF rfl rfl hb2.h ?_
    refine WO_guardF rfl rfl hb2.h ?_
    refine WO_guardF rfl rfl hb2.h ?_
    refine WO_guardF rfl rfl hb2.h ?_
    refine WO_guardF rfl rfl hb2.h ?_
    refine WO_p (PS_pickF rfl hb2.h rfl) ?_
    refine WO_nil ?_
    refine thn_normal ?_
    refine W_condF rfl rfl ?_
    refine W_exit ?_
    refine thn_exit ?_
    refine thn_exit ?_
    refine inBlk_exit ?_
    refine thn_normal ?_
    refine W_seq ?_
    refine W_region rfl ?_
    refine WO_p (PS_move_int rfl) ?_
    refine WO_p (PS_conv_u64n Hvac.runUnderlying3 Hvac.runUnderlying26 rfl (by omega) (by omega)) ?_
    refine WO_p (PS_assign_int rfl) ?_
    refine WO_nil ?_
    refine thn_normal ?_
    refine W_ret ?_
    refine bodyQ_ret1 Hvac.results194 rfl (.int _ _) rfl ?_
    have hie := ynb_of hlt hz0
    exact ⟨(by repeat (first | assumption | exact Ext.refl _ | refine Ext.alloc ?_ _ | refine Ext.drew ?_ | refine Ext.setB ?_ (by first | omega | (simp only [size_alloc, size_setB, size_drew]; omega)) _ | refine Ext.trans ?_ (by assumption))), by rw [← hie]⟩

set_option maxRecDepth 10000 in
set_option maxHeartbeats 4000000 in
theorem yModExp_spec [Om] (w : World) (hO : OmB w) (bp : Option Addr) (bn bc b : Nat) (hb : NN w (bp, bn, bc) b) (zb : sz b ≤ 1000) (ep : Option Addr) (en ec e : Nat) (he : NN w (ep, en, ec) e) (ze : sz e ≤ 1000) (mp : Option Addr) (mn mc m : Nat) (hm : NN w (mp, mn, mc) m) (zm : sz m ≤ 1000): Ret Hvac.prog 196 #[.slice bp bn bc, .slice ep en ec, .slice mp mn mc] w fun u w' => Ext w w' ∧ ∃ s' : SV, u = .slice s'.1 s'.2.1 s'.2.2 ∧ NN w' s' (ymodexp b e m) := by
  have hnb := ynb_le e
  refine Ret_of_W Hvac.func196 rfl rfl ?_
  refine W_seq ?_
  refine W_region rfl ?_
  refine WO_p (PS_assign_slice rfl) ?_
  refine WO_nil ?_
  refine thn_normal ?_
  refine W_seq ?_
  refine W_region rfl ?_
  refine WO_call Hvac.call19 (by rfl) (Ret.mono (nNum_spec (OmB.ext hO (by repeat (first | assumption | exact Ext.refl _ | refine Ext.alloc ?_ _ | refine Ext.drew ?_ | refine Ext.setB ?_ (by first | omega | (simp only [size_alloc, size_setB, size_drew]; omega)) _ | exact Ext.trans (by assumption) (by assumption) | refine Ext.trans ?_ (by assumption)))) ⟨by omega, by omega⟩) ?_)
  rintro _ w19_0 ⟨hE19_0, s19_0, rfl, hN19_0, hs19_0⟩
  have hz19_0 := hE19_0.1
  try simp only [size_alloc, size_setB, size_drew] at hz19_0
  try simp only [Int.toNat_natCast, toNat_lit] at hN19_0 hs19_0
  refine WO_p (PS_move_slice rfl) ?_
  refine WO_call Hvac.call225 (by rfl) (Ret.mono (nDiv_spec (OmB.ext hO (by repeat (first | assumption | exact Ext.refl _ | refine Ext.alloc ?_ _ | refine Ext.drew ?_ | refine Ext.setB ?_ (by first | omega | (simp only [size_alloc, size_setB, size_drew]; omega)) _ | exact Ext.trans (by assumption) (by assumption) | refine Ext.trans ?_ (by assumption)))) (by first | exact NN.nil _ | assumption | exact NN.ext (by assumption) (by repeat (first | assumption | exact Ext.refl _ | refine Ext.alloc ?_ _ | refine Ext.drew ?_ | refine Ext.setB ?_ (by first | omega | (simp only [size_alloc, size_setB, size_drew]; omega)) _ | exact Ext.trans (by assumption) (by assumption) | refine Ext.trans ?_ (by assumption)))) (by first | exact NN.nil _ | assumption | exact NN.ext (by assumption) (by repeat (first | assumption | exact Ext.refl _ | refine Ext.alloc ?_ _ | refine Ext.drew ?_ | refine Ext.setB ?_ (by first | omega | (simp only [size_alloc, size_setB, size_drew]; omega)) _ | exact Ext.trans (by assumption) (by assumption) | refine Ext.trans ?_ (by assumption)))) (by first | assumption | omega | (rw [sz_zero]; omega)) (by first | assumption | omega | (rw [sz_zero]; omega))) ?_)
  rintro _ w225_1 ⟨hE225_1, sq1, s1, rfl, hNq1, hM1⟩
  have hz225_1 := hE225_1.1
  try simp only [size_alloc, size_setB, size_drew] at hz225_1
  replace hM1 : NN w225_1 s1 (ymd 1 m) := hM1
  refine WO_p (PS_move_tuple rfl) ?_
  refine WO_p (PS_extract_slice rfl rfl) ?_
  refine WO_p (PS_extract_slice rfl rfl) ?_
  refine WO_p (PS_extract_bool rfl rfl) ?_
  refine WO_p (PS_assign_slice rfl) ?_
  refine WO_p (PS_assign_slice rfl) ?_
  refine WO_p (PS_assign_bool rfl) ?_
  refine WO_nil ?_
  refine thn_normal ?_
  refine W_seq ?_
  refine W_seq ?_
  refine W_region rfl ?_
  refine WO_p (PS_move_slice rfl) ?_
  refine WO_call Hvac.call194 (by rfl) (Ret.mono (yBits_spec _ (OmB.ext hO (by repeat (first | assumption | exact Ext.refl _ | refine Ext.alloc ?_ _ | refine Ext.drew ?_ | refine Ext.setB ?_ (by first | omega | (simp only [size_alloc, size_setB, size_drew]; omega)) _ | exact Ext.trans (by assumption) (by assumption) | refine Ext.trans ?_ (by assumption)))) _ _ _ _ (by first | exact NN.nil _ | assumption | exact NN.ext (by assumption) (by repeat (first | assumption | exact Ext.refl _ | refine Ext.alloc ?_ _ | refine Ext.drew ?_ | refine Ext.setB ?_ (by first | omega | (simp only [size_alloc, size_setB, size_drew]; omega)) _ | exact Ext.trans (by assumption) (by assumption) | refine Ext.trans ?_ (by assumption)))) (by first | assumption | omega | (rw [sz_zero]; omega))) ?_)
  rintro _ w194_3 ⟨hE194_3, rfl⟩
  have hz194_3 := hE194_3.1
  try simp only [size_alloc, size_setB, size_drew] at hz194_3
  refine WO_p (PS_assign_int rfl) ?_
  refine WO_nil ?_
  refine thn_normal ?_
  refine W_block ?_
  refine W_loopN (fun k ρ w' => ∃ (i : Nat) (s : SV), i = k ∧ i ≤ ynb e ∧ Fr [(0, .slice bp bn bc), (1, .slice ep en ec), (2, .slice mp mn mc), (8, .slice s.1 s.2.1 s.2.2), (10, .int .u64 i)] ρ ∧ Ext w w' ∧ NN w' s (ymd (b ^ (e / 2 ^ i)) m)) (ynb e) ?_ ?_
  · exact ⟨ynb e, s1, rfl, Nat.le_refl _, ⟨rfl, rfl, rfl, rfl, rfl, trivial⟩, (by repeat (first | assumption | exact Ext.refl _ | refine Ext.alloc ?_ _ | refine Ext.drew ?_ | refine Ext.setB ?_ (by first | omega | (simp only [size_alloc, size_setB, size_drew]; omega)) _ | refine Ext.trans ?_ (by assumption))), by rw [Nat.div_eq_of_lt (ynb_lt e), Nat.pow_zero]; exact NN.ext hM1 (by repeat (first | assumption | exact Ext.refl _ | refine Ext.alloc ?_ _ | refine Ext.drew ?_ | refine Ext.setB ?_ (by first | omega | (simp only [size_alloc, size_setB, size_drew]; omega)) _ | refine Ext.trans ?_ (by assumption)))⟩
  intro k2 ρ2 w2 hI2
  obtain ⟨i, s, hik, hi8, hFr2, hE2, hP⟩ := hI2
  refine W_env _ hFr2 ?_
  have hz2 := hE2.1
  refine W_seq ?_
  refine W_seq ?_
  refine W_region rfl ?_
  refine WO_p (PS_move_int rfl) ?_
  refine WO_p (PS_gtr rfl rfl) ?_
  refine WO_nil ?_
  refine thn_normal ?_
  refine W_if rfl (fun hb6 => ?_) (fun hb6 => ?_)
  · have hb6p := hb6.h; try simp only [al_ete, al_dfn, Bool.not_eq_true', Bool.not_eq_false', al_ne, Bool.not_not, al_nn] at hb6p
    have hsP := sz_ymd (b ^ (e / 2 ^ i)) m
    refine W_skip ?_
    refine thn_normal ?_
    refine W_seq ?_
    refine W_block ?_
    refine W_seq ?_
    refine W_region rfl ?_
    refine WO_p (PS_move_slice rfl) ?_
    refine WO_p (PS_move_slice rfl) ?_
    refine WO_call Hvac.call26 (by rfl) (Ret.mono (nMul_spec (OmB.ext hO (by repeat (first | assumption | exact Ext.refl _ | refine Ext.alloc ?_ _ | refine Ext.drew ?_ | refine Ext.setB ?_ (by first | omega | (simp only [size_alloc, size_setB, size_drew]; omega)) _ | exact Ext.trans (by assumption) (by assumption) | refine Ext.trans ?_ (by assumption)))) (by first | exact NN.nil _ | assumption | exact NN.ext (by assumption) (by repeat (first | assumption | exact Ext.refl _ | refine Ext.alloc ?_ _ | refine Ext.drew ?_ | refine Ext.setB ?_ (by first | omega | (simp only [size_alloc, size_setB, size_drew]; omega)) _ | exact Ext.trans (by assumption) (by assumption) | refine Ext.trans ?_ (by assumption)))) (by first | exact NN.nil _ | assumption | exact NN.ext (by assumption) (by repeat (first | assumption | exact Ext.refl _ | refine Ext.alloc ?_ _ | refine Ext.drew ?_ | refine Ext.setB ?_ (by first | omega | (simp only [size_alloc, size_setB, size_drew]; omega)) _ | exact Ext.trans (by assumption) (by assumption) | refine Ext.trans ?_ (by assumption)))) (by first | assumption | omega | (rw [sz_zero]; omega)) (by first | assumption | omega | (rw [sz_zero]; omega))) ?_)
    rintro _ w26_6 ⟨hE26_6, s26_6, rfl, hN26_6⟩
    have hz26_6 := hE26_6.1
    try simp only [size_alloc, size_setB, size_drew] at hz26_6
    have hs26_6 := hN26_6.z_mul
    refine WO_p (PS_move_slice rfl) ?_
    refine WO_call Hvac.call225 (by rfl) (Ret.mono (nDiv_spec (OmB.ext hO (by repeat (first | assumption | exact Ext.refl _ | refine Ext.alloc ?_ _ | refine Ext.drew ?_ | refine Ext.setB ?_ (by first | omega | (simp only [size_alloc, size_setB, size_drew]; omega)) _ | exact Ext.trans (by assumption) (by assumption) | refine Ext.trans ?_ (by assumption)))) (by first | exact NN.nil _ | assumption | exact NN.ext (by assumption) (by repeat (first | assumption | exact Ext.refl _ | refine Ext.alloc ?_ _ | refine Ext.drew ?_ | refine Ext.setB ?_ (by first | omega | (simp only [size_alloc, size_setB, size_drew]; omega)) _ | exact Ext.trans (by assumption) (by assumption) | refine Ext.trans ?_ (by assumption)))) (by first | exact NN.nil _ | assumption | exact NN.ext (by assumption) (by repeat (first | assumption | exact Ext.refl _ | refine Ext.alloc ?_ _ | refine Ext.drew ?_ | refine Ext.setB ?_ (by first | omega | (simp only [size_alloc, size_setB, size_drew]; omega)) _ | exact Ext.trans (by assumption) (by assumption) | refine Ext.trans ?_ (by assumption)))) (by first | assumption | omega | (rw [sz_zero]; omega)) (by first | assumption | omega | (rw [sz_zero]; omega))) ?_)
    rintro _ w225_7 ⟨hE225_7, sq5, s5, rfl, hNq5, hM5⟩
    have hz225_7 := hE225_7.1
    try simp only [size_alloc, size_setB, size_drew] at hz225_7
    replace hM5 : NN w225_7 s5 (ymd (ymd (b ^ (e / 2 ^ i)) m * ymd (b ^ (e / 2 ^ i)) m) m) := hM5
    rw [ymd_sq] at hM5
    have hs5 := sz_ymd (b ^ (2 * (e / 2 ^ i))) m
    refine WO_p (PS_move_tuple rfl) ?_
    refine WO_p (PS_extract_slice rfl rfl) ?_
    refine WO_p (PS_extract_slice rfl rfl) ?_
    refine WO_p (PS_extract_bool rfl rfl) ?_
    refine WO_p (PS_assign_slice rfl) ?_
    refine WO_nil ?_
    refine thn_normal ?_
    refine W_seq ?_
    refine W_region rfl ?_
    refine WO_p (PS_move_slice rfl) ?_
    refine WO_p (PS_move_int rfl) ?_
    refine WO_p (PS_sub_u64n rfl rfl (by omega) (by omega)) ?_
    refine WO_p (PS_conv_u16n Hvac.runUnderlying26 Hvac.runUnderlying42 rfl (by omega) (by omega)) ?_
    rw [show (i : Int) - 1 = ((i - 1 : Nat) : Int) by omega]
    refine WO_call Hvac.call294 (by rfl) (Ret.mono (nBit_spec (i := i - 1) (by first | exact NN.nil _ | assumption | exact NN.ext (by assumption) (by repeat (first | assumption | exact Ext.refl _ | refine Ext.alloc ?_ _ | refine Ext.drew ?_ | refine Ext.setB ?_ (by first | omega | (simp only [size_alloc, size_setB, size_drew]; omega)) _ | exact Ext.trans (by assumption) (by assumption) | refine Ext.trans ?_ (by assumption)))) (by first | assumption | omega | (rw [sz_zero]; omega)) (by omega)) ?_)
    rintro _ w294_8 ⟨hE294_8, rfl⟩
    have hz294_8 := hE294_8.1
    try simp only [size_alloc, size_setB, size_drew] at hz294_8
    refine WO_nil ?_
    refine thn_normal ?_
    refine W_if rfl (fun hb10 => ?_) (fun hb10 => ?_)
    · have hb10p := hb10.h; try simp only [al_ete, al_dfn, Bool.not_eq_true', Bool.not_eq_false', al_ne, Bool.not_not, al_nn] at hb10p
      have hst := half_step (e := e) (i := i) (by omega)
      rw [if_pos hb10p] at hst
      refine W_region rfl ?_
      refine WO_p (PS_move_slice rfl) ?_
      refine WO_p (PS_move_slice rfl) ?_
      refine WO_call Hvac.call26 (by rfl) (Ret.mono (nMul_spec (OmB.ext hO (by repeat (first | assumption | exact Ext.refl _ | refine Ext.alloc ?_ _ | refine Ext.drew ?_ | refine Ext.setB ?_ (by first | omega | (simp only [size_alloc, size_setB, size_drew]; omega)) _ | exact Ext.trans (by assumption) (by assumption) | refine Ext.trans ?_ (by assumption)))) (by first | exact NN.nil _ | assumption | exact NN.ext (by assumption) (by repeat (first | assumption | exact Ext.refl _ | refine Ext.alloc ?_ _ | refine Ext.drew ?_ | refine Ext.setB ?_ (by first | omega | (simp only [size_alloc, size_setB, size_drew]; omega)) _ | exact Ext.trans (by assumption) (by assumption) | refine Ext.trans ?_ (by assumption)))) (by first | exact NN.nil _ | assumption | exact NN.ext (by assumption) (by repeat (first | assumption | exact Ext.refl _ | refine Ext.alloc ?_ _ | refine Ext.drew ?_ | refine Ext.setB ?_ (by first | omega | (simp only [size_alloc, size_setB, size_drew]; omega)) _ | exact Ext.trans (by assumption) (by assumption) | refine Ext.trans ?_ (by assumption)))) (by first | assumption | omega | (rw [sz_zero]; omega)) (by first | assumption | omega | (rw [sz_zero]; omega))) ?_)
      rintro _ w26_10 ⟨hE26_10, s26_10, rfl, hN26_10⟩
      have hz26_10 := hE26_10.1
      try simp only [size_alloc, size_setB, size_drew] at hz26_10
      have hs26_10 := hN26_10.z_mul
      refine WO_p (PS_move_slice rfl) ?_
      refine WO_call Hvac.call225 (by rfl) (Ret.mono (nDiv_spec (OmB.ext hO (by repeat (first | assumption | exact Ext.refl _ | refine Ext.alloc ?_ _ | refine Ext.drew ?_ | refine Ext.setB ?_ (by first | omega | (simp only [size_alloc, size_setB, size_drew]; omega)) _ | exact Ext.trans (by assumption) (by assumption) | refine Ext.trans ?_ (by assumption)))) (by first | exact NN.nil _ | assumption | exact NN.ext (by assumption) (by repeat (first | assumption | exact Ext.refl _ | refine Ext.alloc ?_ _ | refine Ext.drew ?_ | refine Ext.setB ?_ (by first | omega | (simp only [size_alloc, size_setB, size_drew]; omega)) _ | exact Ext.trans (by assumption) (by assumption) | refine Ext.trans ?_ (by assumption)))) (by first | exact NN.nil _ | assumption | exact NN.ext (by assumption) (by repeat (first | assumption | exact Ext.refl _ | refine Ext.alloc ?_ _ | refine Ext.drew ?_ | refine Ext.setB ?_ (by first | omega | (simp only [size_alloc, size_setB, size_drew]; omega)) _ | exact Ext.trans (by assumption) (by assumption) | refine Ext.trans ?_ (by assumption)))) (by first | assumption | omega | (rw [sz_zero]; omega)) (by first | assumption | omega | (rw [sz_zero]; omega))) ?_)
      rintro _ w225_11 ⟨hE225_11, sq7, s7, rfl, hNq7, hM7⟩
      have hz225_11 := hE225_11.1
      try simp only [size_alloc, size_setB, size_drew] at hz225_11
      replace hM7 : NN w225_11 s7 (ymd (ymd (b ^ (2 * (e / 2 ^ i))) m * b) m) := hM7
      rw [ymd_mul] at hM7
      refine WO_p (PS_move_tuple rfl) ?_
      refine WO_p (PS_extract_slice rfl rfl) ?_
      refine WO_p (PS_extract_slice rfl rfl) ?_
      refine WO_p (PS_extract_bool rfl rfl) ?_
      refine WO_p (PS_assign_slice rfl) ?_
      refine WO_nil ?_
      refine inBlk_normal ?_
      refine thn_normal ?_
      refine W_region rfl ?_
      refine WO_p (PS_move_int rfl) ?_
      refine WO_p (PS_sub_u64n rfl rfl (by omega) (by omega)) ?_
      refine WO_p (PS_assign_int rfl) ?_
      refine WO_nil ?_
      refine thn_normal ?_
      exact ⟨k2 - 1, by omega, i - 1, s7, by omega, by omega, ⟨rfl, rfl, rfl, rfl, congrArg (Value.int .u64) (by omega), trivial⟩, (by repeat (first | assumption | exact Ext.refl _ | refine Ext.alloc ?_ _ | refine Ext.drew ?_ | refine Ext.setB ?_ (by first | omega | (simp only [size_alloc, size_setB, size_drew]; omega)) _ | exact Ext.trans (by assumption) (by assumption) | refine Ext.trans ?_ (by assumption))), (by rw [hst]; exact hM7)⟩
    · have hb10p := hb10.h; try simp only [al_ete, al_dfn, Bool.not_eq_true', Bool.not_eq_false', al_ne, Bool.not_not, al_nn] at hb10p
      have hst := half_step (e := e) (i := i) (by omega)
      rw [if_neg (by rw [hb10p]; decide)] at hst
      refine W_skip ?_
      refine inBlk_normal ?_
      refine thn_normal ?_
      refine W_region rfl ?_
      refine WO_p (PS_move_int rfl) ?_
      refine WO_p (PS_sub_u64n rfl rfl (by omega) (by omega)) ?_
      refine WO_p (PS_assign_int rfl) ?_
      refine WO_nil ?_
      refine thn_normal ?_
      exact ⟨k2 - 1, by omega, i - 1, s5, by omega, by omega, ⟨rfl, rfl, rfl, rfl, congrArg (Value.int .u64) (by omega), trivial⟩, (by repeat (first | assumption | exact Ext.refl _ | refine Ext.alloc ?_ _ | refine Ext.drew ?_ | refine Ext.setB ?_ (by first | omega | (simp only [size_alloc, size_setB, size_drew]; omega)) _ | exact Ext.trans (by assumption) (by assumption) | refine Ext.trans ?_ (by assumption))), (by rw [hst, Nat.add_zero]; exact NN.ext hM5 (by repeat (first | assumption | exact Ext.refl _ | refine Ext.alloc ?_ _ | refine Ext.drew ?_ | refine Ext.setB ?_ (by first | omega | (simp only [size_alloc, size_setB, size_drew]; omega)) _ | exact Ext.trans (by assumption) (by assumption) | refine Ext.trans ?_ (by assumption))))⟩
  · have hb6p := hb6.h; try simp only [al_ete, al_dfn, Bool.not_eq_true', Bool.not_eq_false', al_ne, Bool.not_not, al_nn] at hb6p
    refine W_exit ?_
    refine thn_exit ?_
    refine thn_exit ?_
    refine inBlk_exit ?_
    refine thn_normal ?_
    refine W_seq ?_
    refine W_region rfl ?_
    refine WO_p (PS_move_slice rfl) ?_
    refine WO_p (PS_assign_slice rfl) ?_
    refine WO_nil ?_
    refine thn_normal ?_
    refine W_ret ?_
    refine bodyQ_ret1 Hvac.results196 rfl (.slice _ _ _) rfl ?_
    have hi0 : i = 0 := by omega
    rw [hi0, Nat.pow_zero, Nat.div_one] at hP
    exact ⟨(by repeat (first | assumption | exact Ext.refl _ | refine Ext.alloc ?_ _ | refine Ext.drew ?_ | refine Ext.setB ?_ (by first | omega | (simp only [size_alloc, size_setB, size_drew]; omega)) _ | refine Ext.trans ?_ (by assumption))), s, rfl, hP⟩

end Go.Proofs.YgvacwGreat
