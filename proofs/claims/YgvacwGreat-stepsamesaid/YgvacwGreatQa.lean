import Derived.Test.YgvacwGreatPk
namespace Go.Proofs.YgvacwGreat
set_option linter.unusedSimpArgs false
set_option linter.unusedVariables false
theorem toNat_lit (n : Nat) : (OfNat.ofNat n : Int).toNat = n := Int.toNat_natCast n
def ywords (n : Nat) : Nat := (n + 31) / 32
def ymem (n : Nat) : Nat := 3 * n + n * n / 512
def ycopy (n : Nat) : Nat := 3 * ywords n
def yexp (e : Nat) : Nat := 10 + 50 * sz e
def ysent (l a : Nat) : Nat := min a (l - l / 64)
def yend (o n : Nat) : Nat := if n = 0 then 0 else o + n
def ysmall (n : Nat) : Int := if n < 18446744073709551616 then (n : Int) else 0
theorem ysmall_bd (n : Nat) : 0 ≤ ysmall n ∧ ysmall n ≤ 18446744073709551615 := by unfold ysmall; split <;> omega
theorem ysmall_eq {n : Nat} (h : n < 18446744073709551616) : ysmall n = n := by unfold ysmall; rw [if_pos h]
theorem cmpI_lt2 {a b : Nat} : (cmpI a b < 0) = (a < b) := al_px cmpI_lt
theorem cmpI_gt2 {a b : Nat} : (0 < cmpI a b) = (b < a) := al_px cmpI_gt
theorem cmpI_gt3 {a b : Nat} : (cmpI a b > 0) = (b < a) := al_px cmpI_gt
theorem cmpI_eq2 {a b : Nat} : (cmpI a b = 0) = (a = b) := al_px cmpI_eq
theorem cmpI_ge2 {a b : Nat} : (0 ≤ cmpI a b) = (b ≤ a) := al_px (by unfold cmpI; split; omega; split <;> omega)
theorem cmpI_ge3 {a b : Nat} : (cmpI a b ≥ 0) = (b ≤ a) := cmpI_ge2
theorem cmpI_le2 {a b : Nat} : (cmpI a b ≤ 0) = (a ≤ b) := al_px (by unfold cmpI; split; omega; split <;> omega)
theorem sz_ywords (n : Nat) : sz (ywords n) ≤ sz n + 1 := by
  unfold ywords
  have := sz_div (n + 31) 32
  have h2 := sz_add n 31
  have h3 : sz 31 ≤ 1 := sz_le (by decide)
  rcases Nat.eq_zero_or_pos n with h | h
  · subst h; rw [sz_zero]; have : sz ((0 + 31) / 32) = 0 := by rw [show (0 + 31) / 32 = 0 from rfl, sz_zero]
    omega
  · have : 1 ≤ sz n := Nat.pos_of_ne_zero fun h0 => by have := sz_eq_zero h0; omega
    omega

set_option maxRecDepth 10000 in
set_option maxHeartbeats 4000000 in
theorem less_spec [Om] (w : World) (hO : OmB w) (ap : Option Addr) (an acY a : Nat) (ha : NN w (ap, an, acY) a) (za : sz a ≤ 500000) (bp : Option Addr) (bn bc b : Nat) (hb : NN w (bp, bn, bc) b) (zb : sz b ≤ 500000) : Ret Hvac.prog 20 #[.slice ap an acY, .slice bp bn bc] w fun u w' => Ext w w' ∧ ∃ s' : SV, u = .slice s'.1 s'.2.1 s'.2.2 ∧ NN w' s' (a - b) := by
  refine Ret_of_W Hvac.func20 rfl rfl ?_
  refine W_seq ?_
  refine W_region rfl ?_
  refine WO_p (PS_assign_slice rfl) ?_
  refine WO_nil ?_
  refine thn_normal ?_
  refine W_seq ?_
  refine W_region rfl ?_
  refine WO_p (PS_move_slice rfl) ?_
  refine WO_p (PS_move_slice rfl) ?_
  refine WO_call Hvac.call82 (by rfl) (Ret.mono (nSub_spec (OmB.ext hO (by repeat (first | assumption | exact Ext.refl _ | refine Ext.alloc ?_ _ | refine Ext.drew ?_ | refine Ext.setB ?_ (by first | omega | (simp only [size_alloc, size_setB, size_drew]; omega)) _ | exact Ext.trans (by assumption) (by assumption) | refine Ext.trans ?_ (by assumption)))) (by first | exact NN.nil _ | assumption | exact NN.ext (by assumption) (by repeat (first | assumption | exact Ext.refl _ | refine Ext.alloc ?_ _ | refine Ext.drew ?_ | refine Ext.setB ?_ (by first | omega | (simp only [size_alloc, size_setB, size_drew]; omega)) _ | exact Ext.trans (by assumption) (by assumption) | refine Ext.trans ?_ (by assumption)))) (by first | exact NN.nil _ | assumption | exact NN.ext (by assumption) (by repeat (first | assumption | exact Ext.refl _ | refine Ext.alloc ?_ _ | refine Ext.drew ?_ | refine Ext.setB ?_ (by first | omega | (simp only [size_alloc, size_setB, size_drew]; omega)) _ | exact Ext.trans (by assumption) (by assumption) | refine Ext.trans ?_ (by assumption)))) (by first | assumption | omega) (by first | assumption | omega)) ?_)
  rintro _ w82_0 ⟨hE82_0, s82_0, rfl, hN82_0⟩
  have hz82_0 := hE82_0.1
  try simp only [size_alloc, size_setB, size_drew] at hz82_0
  have hs82_0 := hN82_0.z_sub
  refine WO_p (PS_move_tuple rfl) ?_
  refine WO_p (PS_extract_slice rfl rfl) ?_
  refine WO_p (PS_extract_bool rfl rfl) ?_
  refine WO_p (PS_assign_slice rfl) ?_
  refine WO_p (PS_assign_bool rfl) ?_
  refine WO_nil ?_
  refine thn_normal ?_
  refine W_seq ?_
  refine W_region rfl ?_
  refine WO_p (PS_move_slice rfl) ?_
  refine WO_p (PS_assign_slice rfl) ?_
  refine WO_nil ?_
  refine thn_normal ?_
  refine W_ret ?_
  refine bodyQ_ret1 Hvac.results20 rfl (.slice _ _ _) rfl ?_
  exact ⟨(by repeat (first | assumption | exact Ext.refl _ | refine Ext.alloc ?_ _ | refine Ext.drew ?_ | refine Ext.setB ?_ (by first | omega | (simp only [size_alloc, size_setB, size_drew]; omega)) _ | refine Ext.trans ?_ (by assumption))), _, rfl, (by first | exact NN.nil _ | assumption | exact NN.ext (by assumption) (by repeat (first | assumption | exact Ext.refl _ | refine Ext.alloc ?_ _ | refine Ext.drew ?_ | refine Ext.setB ?_ (by first | omega | (simp only [size_alloc, size_setB, size_drew]; omega)) _ | refine Ext.trans ?_ (by assumption))))⟩

set_option maxRecDepth 10000 in
set_option maxHeartbeats 4000000 in
theorem minNat_spec [Om] (w : World) (hO : OmB w) (ap : Option Addr) (an acY a : Nat) (ha : NN w (ap, an, acY) a) (za : sz a ≤ 500000) (bp : Option Addr) (bn bc b : Nat) (hb : NN w (bp, bn, bc) b) (zb : sz b ≤ 500000) : Ret Hvac.prog 84 #[.slice ap an acY, .slice bp bn bc] w fun u w' => Ext w w' ∧ ∃ s' : SV, u = .slice s'.1 s'.2.1 s'.2.2 ∧ NN w' s' (min a b) := by
  refine Ret_of_W Hvac.func84 rfl rfl ?_
  refine W_seq ?_
  refine W_region rfl ?_
  refine WO_p (PS_assign_slice rfl) ?_
  refine WO_nil ?_
  refine thn_normal ?_
  refine W_seq ?_
  refine W_seq ?_
  refine W_region rfl ?_
  refine WO_p (PS_move_slice rfl) ?_
  refine WO_p (PS_move_slice rfl) ?_
  refine WO_call Hvac.call76 (by rfl) (Ret.mono (nCmp_spec (by first | exact NN.nil _ | assumption | exact NN.ext (by assumption) (by repeat (first | assumption | exact Ext.refl _ | refine Ext.alloc ?_ _ | refine Ext.drew ?_ | refine Ext.setB ?_ (by first | omega | (simp only [size_alloc, size_setB, size_drew]; omega)) _ | exact Ext.trans (by assumption) (by assumption) | refine Ext.trans ?_ (by assumption)))) (by first | exact NN.nil _ | assumption | exact NN.ext (by assumption) (by repeat (first | assumption | exact Ext.refl _ | refine Ext.alloc ?_ _ | refine Ext.drew ?_ | refine Ext.setB ?_ (by first | omega | (simp only [size_alloc, size_setB, size_drew]; omega)) _ | exact Ext.trans (by assumption) (by assumption) | refine Ext.trans ?_ (by assumption)))) (by first | assumption | omega) (by first | assumption | omega)) ?_)
  rintro _ w76_0 ⟨hE76_0, rfl⟩
  have hz76_0 := hE76_0.1
  try simp only [size_alloc, size_setB, size_drew] at hz76_0
  refine WO_p (PS_lss rfl rfl) ?_
  refine WO_nil ?_
  refine thn_normal ?_
  refine W_if rfl (fun hb3 => ?_) (fun hb3 => ?_)
  · have hb3p := hb3.h; try simp only [al_ete, al_dfn, Bool.not_eq_true', Bool.not_eq_false', al_ne, Bool.not_not, al_nn] at hb3p
    rw [cmpI_lt2] at hb3p
    rw [show min a b = a by omega]
    refine W_seq ?_
    refine W_region rfl ?_
    refine WO_p (PS_move_slice rfl) ?_
    refine WO_p (PS_assign_slice rfl) ?_
    refine WO_nil ?_
    refine thn_normal ?_
    refine W_ret ?_
    refine thn_ret ?_
    refine bodyQ_ret1 Hvac.results84 rfl (.slice _ _ _) rfl ?_
    exact ⟨(by repeat (first | assumption | exact Ext.refl _ | refine Ext.alloc ?_ _ | refine Ext.drew ?_ | refine Ext.setB ?_ (by first | omega | (simp only [size_alloc, size_setB, size_drew]; omega)) _ | refine Ext.trans ?_ (by assumption))), (_, _, _), rfl, (by first | exact NN.nil _ | assumption | exact NN.ext (by assumption) (by repeat (first | assumption | exact Ext.refl _ | refine Ext.alloc ?_ _ | refine Ext.drew ?_ | refine Ext.setB ?_ (by first | omega | (simp only [size_alloc, size_setB, size_drew]; omega)) _ | refine Ext.trans ?_ (by assumption))))⟩
  · have hb3p := hb3.h; try simp only [al_ete, al_dfn, Bool.not_eq_true', Bool.not_eq_false', al_ne, Bool.not_not, al_nn] at hb3p
    rw [cmpI_lt2] at hb3p
    rw [show min a b = b by omega]
    refine W_skip ?_
    refine thn_normal ?_
    refine W_seq ?_
    refine W_region rfl ?_
    refine WO_p (PS_move_slice rfl) ?_
    refine WO_p (PS_assign_slice rfl) ?_
    refine WO_nil ?_
    refine thn_normal ?_
    refine W_ret ?_
    refine bodyQ_ret1 Hvac.results84 rfl (.slice _ _ _) rfl ?_
    exact ⟨(by repeat (first | assumption | exact Ext.refl _ | refine Ext.alloc ?_ _ | refine Ext.drew ?_ | refine Ext.setB ?_ (by first | omega | (simp only [size_alloc, size_setB, size_drew]; omega)) _ | refine Ext.trans ?_ (by assumption))), (_, _, _), rfl, (by first | exact NN.nil _ | assumption | exact NN.ext (by assumption) (by repeat (first | assumption | exact Ext.refl _ | refine Ext.alloc ?_ _ | refine Ext.drew ?_ | refine Ext.setB ?_ (by first | omega | (simp only [size_alloc, size_setB, size_drew]; omega)) _ | refine Ext.trans ?_ (by assumption))))⟩

set_option maxRecDepth 10000 in
set_option maxHeartbeats 4000000 in
theorem maxNat_spec [Om] (w : World) (hO : OmB w) (ap : Option Addr) (an acY a : Nat) (ha : NN w (ap, an, acY) a) (za : sz a ≤ 500000) (bp : Option Addr) (bn bc b : Nat) (hb : NN w (bp, bn, bc) b) (zb : sz b ≤ 500000) : Ret Hvac.prog 119 #[.slice ap an acY, .slice bp bn bc] w fun u w' => Ext w w' ∧ ∃ s' : SV, u = .slice s'.1 s'.2.1 s'.2.2 ∧ NN w' s' (max a b) := by
  refine Ret_of_W Hvac.func119 rfl rfl ?_
  refine W_seq ?_
  refine W_region rfl ?_
  refine WO_p (PS_assign_slice rfl) ?_
  refine WO_nil ?_
  refine thn_normal ?_
  refine W_seq ?_
  refine W_seq ?_
  refine W_region rfl ?_
  refine WO_p (PS_move_slice rfl) ?_
  refine WO_p (PS_move_slice rfl) ?_
  refine WO_call Hvac.call76 (by rfl) (Ret.mono (nCmp_spec (by first | exact NN.nil _ | assumption | exact NN.ext (by assumption) (by repeat (first | assumption | exact Ext.refl _ | refine Ext.alloc ?_ _ | refine Ext.drew ?_ | refine Ext.setB ?_ (by first | omega | (simp only [size_alloc, size_setB, size_drew]; omega)) _ | exact Ext.trans (by assumption) (by assumption) | refine Ext.trans ?_ (by assumption)))) (by first | exact NN.nil _ | assumption | exact NN.ext (by assumption) (by repeat (first | assumption | exact Ext.refl _ | refine Ext.alloc ?_ _ | refine Ext.drew ?_ | refine Ext.setB ?_ (by first | omega | (simp only [size_alloc, size_setB, size_drew]; omega)) _ | exact Ext.trans (by assumption) (by assumption) | refine Ext.trans ?_ (by assumption)))) (by first | assumption | omega) (by first | assumption | omega)) ?_)
  rintro _ w76_0 ⟨hE76_0, rfl⟩
  have hz76_0 := hE76_0.1
  try simp only [size_alloc, size_setB, size_drew] at hz76_0
  refine WO_p (PS_gtr rfl rfl) ?_
  refine WO_nil ?_
  refine thn_normal ?_
  refine W_if rfl (fun hb3 => ?_) (fun hb3 => ?_)
  · have hb3p := hb3.h; try simp only [al_ete, al_dfn, Bool.not_eq_true', Bool.not_eq_false', al_ne, Bool.not_not, al_nn] at hb3p
    rw [cmpI_gt2] at hb3p
    rw [show max a b = a by omega]
    refine W_seq ?_
    refine W_region rfl ?_
    refine WO_p (PS_move_slice rfl) ?_
    refine WO_p (PS_assign_slice rfl) ?_
    refine WO_nil ?_
    refine thn_normal ?_
    refine W_ret ?_
    refine thn_ret ?_
    refine bodyQ_ret1 Hvac.results119 rfl (.slice _ _ _) rfl ?_
    exact ⟨(by repeat (first | assumption | exact Ext.refl _ | refine Ext.alloc ?_ _ | refine Ext.drew ?_ | refine Ext.setB ?_ (by first | omega | (simp only [size_alloc, size_setB, size_drew]; omega)) _ | refine Ext.trans ?_ (by assumption))), (_, _, _), rfl, (by first | exact NN.nil _ | assumption | exact NN.ext (by assumption) (by repeat (first | assumption | exact Ext.refl _ | refine Ext.alloc ?_ _ | refine Ext.drew ?_ | refine Ext.setB ?_ (by first | omega | (simp only [size_alloc, size_setB, size_drew]; omega)) _ | refine Ext.trans ?_ (by assumption))))⟩
  · have hb3p := hb3.h; try simp only [al_ete, al_dfn, Bool.not_eq_true', Bool.not_eq_false', al_ne, Bool.not_not, al_nn] at hb3p
    rw [cmpI_gt2] at hb3p
    rw [show max a b = b by omega]
    refine W_skip ?_
    refine thn_normal ?_
    refine W_seq ?_
    refine W_region rfl ?_
    refine WO_p (PS_move_slice rfl) ?_
    refine WO_p (PS_assign_slice rfl) ?_
    refine WO_nil ?_
    refine thn_normal ?_
    refine W_ret ?_
    refine bodyQ_ret1 Hvac.results119 rfl (.slice _ _ _) rfl ?_
    exact ⟨(by repeat (first | assumption | exact Ext.refl _ | refine Ext.alloc ?_ _ | refine Ext.drew ?_ | refine Ext.setB ?_ (by first | omega | (simp only [size_alloc, size_setB, size_drew]; omega)) _ | refine Ext.trans ?_ (by assumption))), (_, _, _), rfl, (by first | exact NN.nil _ | assumption | exact NN.ext (by assumption) (by repeat (first | assumption | exact Ext.refl _ | refine Ext.alloc ?_ _ | refine Ext.drew ?_ | refine Ext.setB ?_ (by first | omega | (simp only [size_alloc, size_setB, size_drew]; omega)) _ | refine Ext.trans ?_ (by assumption))))⟩

set_option maxRecDepth 10000 in
set_option maxHeartbeats 4000000 in
theorem divided_spec [Om] (w : World) (hO : OmB w) (ap : Option Addr) (an acY a : Nat) (ha : NN w (ap, an, acY) a) (za : sz a ≤ 500000) (b : Int) (hb : 0 ≤ b ∧ b ≤ 18446744073709551615) : Ret Hvac.prog 162 #[.slice ap an acY, .int .u64 b] w fun u w' => Ext w w' ∧ ∃ s' : SV, u = .slice s'.1 s'.2.1 s'.2.2 ∧ NN w' s' (a / b.toNat) := by
  refine Ret_of_W Hvac.func162 rfl rfl ?_
  refine W_seq ?_
  refine W_region rfl ?_
  refine WO_p (PS_assign_slice rfl) ?_
  refine WO_nil ?_
  refine thn_normal ?_
  refine W_seq ?_
  refine W_region rfl ?_
  refine WO_p (PS_move_slice rfl) ?_
  refine WO_p (PS_move_int rfl) ?_
  refine WO_call Hvac.call19 (by rfl) (Ret.mono (nNum_spec (OmB.ext hO (by repeat (first | assumption | exact Ext.refl _ | refine Ext.alloc ?_ _ | refine Ext.drew ?_ | refine Ext.setB ?_ (by first | omega | (simp only [size_alloc, size_setB, size_drew]; omega)) _ | exact Ext.trans (by assumption) (by assumption) | refine Ext.trans ?_ (by assumption)))) ⟨by omega, by omega⟩) ?_)
  rintro _ w19_0 ⟨hE19_0, s19_0, rfl, hN19_0, hs19_0⟩
  have hz19_0 := hE19_0.1
  try simp only [size_alloc, size_setB, size_drew] at hz19_0
  try simp only [Int.toNat_natCast, toNat_lit] at hN19_0 hs19_0
  refine WO_call Hvac.call225 (by rfl) (Ret.mono (nDiv_spec (OmB.ext hO (by repeat (first | assumption | exact Ext.refl _ | refine Ext.alloc ?_ _ | refine Ext.drew ?_ | refine Ext.setB ?_ (by first | omega | (simp only [size_alloc, size_setB, size_drew]; omega)) _ | exact Ext.trans (by assumption) (by assumption) | refine Ext.trans ?_ (by assumption)))) (by first | exact NN.nil _ | assumption | exact NN.ext (by assumption) (by repeat (first | assumption | exact Ext.refl _ | refine Ext.alloc ?_ _ | refine Ext.drew ?_ | refine Ext.setB ?_ (by first | omega | (simp only [size_alloc, size_setB, size_drew]; omega)) _ | exact Ext.trans (by assumption) (by assumption) | refine Ext.trans ?_ (by assumption)))) (by first | exact NN.nil _ | assumption | exact NN.ext (by assumption) (by repeat (first | assumption | exact Ext.refl _ | refine Ext.alloc ?_ _ | refine Ext.drew ?_ | refine Ext.setB ?_ (by first | omega | (simp only [size_alloc, size_setB, size_drew]; omega)) _ | exact Ext.trans (by assumption) (by assumption) | refine Ext.trans ?_ (by assumption)))) (by first | assumption | omega) (by first | assumption | omega)) ?_)
  rintro _ w225_1 ⟨hE225_1, s225_1, r225_1, rfl, hN225_1, hM225_1⟩
  have hz225_1 := hE225_1.1
  try simp only [size_alloc, size_setB, size_drew] at hz225_1
  have hs225_1 := hN225_1.z_div
  have hr225_1 := hM225_1.z_mod
  refine WO_p (PS_move_tuple rfl) ?_
  refine WO_p (PS_extract_slice rfl rfl) ?_
  refine WO_p (PS_extract_slice rfl rfl) ?_
  refine WO_p (PS_extract_bool rfl rfl) ?_
  refine WO_p (PS_assign_slice rfl) ?_
  refine WO_p (PS_assign_slice rfl) ?_
  refine WO_p (PS_assign_bool rfl) ?_
  refine WO_nil ?_
  refine thn_normal ?_
  refine W_seq ?_
  refine W_region rfl ?_
  refine WO_p (PS_move_slice rfl) ?_
  refine WO_p (PS_assign_slice rfl) ?_
  refine WO_nil ?_
  refine thn_normal ?_
  refine W_ret ?_
  refine bodyQ_ret1 Hvac.results162 rfl (.slice _ _ _) rfl ?_
  exact ⟨(by repeat (first | assumption | exact Ext.refl _ | refine Ext.alloc ?_ _ | refine Ext.drew ?_ | refine Ext.setB ?_ (by first | omega | (simp only [size_alloc, size_setB, size_drew]; omega)) _ | refine Ext.trans ?_ (by assumption))), _, rfl, (by first | exact NN.nil _ | assumption | exact NN.ext (by assumption) (by repeat (first | assumption | exact Ext.refl _ | refine Ext.alloc ?_ _ | refine Ext.drew ?_ | refine Ext.setB ?_ (by first | omega | (simp only [size_alloc, size_setB, size_drew]; omega)) _ | refine Ext.trans ?_ (by assumption))))⟩

theorem NN.z_min [Om] {w : World} {s : SV} {a b : Nat} (h : NN w s (min a b)) : sz (min a b) ≤ sz a ∧ sz (min a b) ≤ sz b := ⟨sz_mono (Nat.min_le_left _ _), sz_mono (Nat.min_le_right _ _)⟩
theorem NN.z_max [Om] {w : World} {s : SV} {a b : Nat} (h : NN w s (max a b)) : sz (max a b) ≤ max (sz a) (sz b) := by
  rcases Nat.le_total a b with h | h
  · rw [Nat.max_eq_right h]; omega
  · rw [Nat.max_eq_left h]; omega
set_option maxRecDepth 10000 in
set_option maxHeartbeats 4000000 in
theorem words_spec2 [Om] (w : World) (hO : OmB w) (ap : Option Addr) (an acY a : Nat) (ha : NN w (ap, an, acY) a) (za : sz a ≤ 1000) : Ret Hvac.prog 83 #[.slice ap an acY] w fun u w' => Ext w w' ∧ ∃ s' : SV, u = .slice s'.1 s'.2.1 s'.2.2 ∧ NN w' s' (ywords a) := by
  refine Ret_of_W Hvac.func83 rfl rfl ?_
  refine W_seq ?_
  refine W_region rfl ?_
  refine WO_p (PS_assign_slice rfl) ?_
  refine WO_nil ?_
  refine thn_normal ?_
  refine W_seq ?_
  refine W_region rfl ?_
  refine WO_p (PS_move_slice rfl) ?_
  refine WO_call Hvac.call19 (by rfl) (Ret.mono (nNum_spec (OmB.ext hO (by repeat (first | assumption | exact Ext.refl _ | refine Ext.alloc ?_ _ | refine Ext.drew ?_ | refine Ext.setB ?_ (by first | omega | (simp only [size_alloc, size_setB, size_drew]; omega)) _ | exact Ext.trans (by assumption) (by assumption) | refine Ext.trans ?_ (by assumption)))) ⟨by omega, by omega⟩) ?_)
  rintro _ w19_0 ⟨hE19_0, s19_0, rfl, hN19_0, hs19_0⟩
  have hz19_0 := hE19_0.1
  try simp only [size_alloc, size_setB, size_drew] at hz19_0
  try simp only [Int.toNat_natCast, toNat_lit] at hN19_0 hs19_0
  refine WO_call Hvac.call24 (by rfl) (Ret.mono (nAdd_spec (OmB.ext hO (by repeat (first | assumption | exact Ext.refl _ | refine Ext.alloc ?_ _ | refine Ext.drew ?_ | refine Ext.setB ?_ (by first | omega | (simp only [size_alloc, size_setB, size_drew]; omega)) _ | exact Ext.trans (by assumption) (by assumption) | refine Ext.trans ?_ (by assumption)))) (by first | exact NN.nil _ | assumption | exact NN.ext (by assumption) (by repeat (first | assumption | exact Ext.refl _ | refine Ext.alloc ?_ _ | refine Ext.drew ?_ | refine Ext.setB ?_ (by first | omega | (simp only [size_alloc, size_setB, size_drew]; omega)) _ | exact Ext.trans (by assumption) (by assumption) | refine Ext.trans ?_ (by assumption)))) (by first | exact NN.nil _ | assumption | exact NN.ext (by assumption) (by repeat (first | assumption | exact Ext.refl _ | refine Ext.alloc ?_ _ | refine Ext.drew ?_ | refine Ext.setB ?_ (by first | omega | (simp only [size_alloc, size_setB, size_drew]; omega)) _ | exact Ext.trans (by assumption) (by assumption) | refine Ext.trans ?_ (by assumption)))) (by first | assumption | omega) (by first | assumption | omega)) ?_)
  rintro _ w24_1 ⟨hE24_1, s24_1, rfl, hN24_1⟩
  have hz24_1 := hE24_1.1
  try simp only [size_alloc, size_setB, size_drew] at hz24_1
  have hs24_1 := hN24_1.z_add
  refine WO_call Hvac.call162 (by rfl) (Ret.mono (divided_spec _ (OmB.ext hO (by repeat (first | assumption | exact Ext.refl _ | refine Ext.alloc ?_ _ | refine Ext.drew ?_ | refine Ext.setB ?_ (by first | omega | (simp only [size_alloc, size_setB, size_drew]; omega)) _ | exact Ext.trans (by assumption) (by assumption) | refine Ext.trans ?_ (by assumption)))) _ _ _ _ (by first | exact NN.nil _ | assumption | exact NN.ext (by assumption) (by repeat (first | assumption | exact Ext.refl _ | refine Ext.alloc ?_ _ | refine Ext.drew ?_ | refine Ext.setB ?_ (by first | omega | (simp only [size_alloc, size_setB, size_drew]; omega)) _ | exact Ext.trans (by assumption) (by assumption) | refine Ext.trans ?_ (by assumption)))) (by first | assumption | omega) _ ⟨by omega, by omega⟩) ?_)
  rintro _ w162_2 ⟨hE162_2, s162_2, rfl, hN162_2⟩
  have hz162_2 := hE162_2.1
  try simp only [size_alloc, size_setB, size_drew] at hz162_2
  try simp only [Int.toNat_natCast, toNat_lit] at hN162_2
  have hs162_2 := hN162_2.z_div
  refine WO_p (PS_assign_slice rfl) ?_
  refine WO_nil ?_
  refine thn_normal ?_
  refine W_ret ?_
  refine bodyQ_ret1 Hvac.results83 rfl (.slice _ _ _) rfl ?_
  exact ⟨(by repeat (first | assumption | exact Ext.refl _ | refine Ext.alloc ?_ _ | refine Ext.drew ?_ | refine Ext.setB ?_ (by first | omega | (simp only [size_alloc, size_setB, size_drew]; omega)) _ | refine Ext.trans ?_ (by assumption))), _, rfl, (by first | exact NN.nil _ | assumption | exact NN.ext (by assumption) (by repeat (first | assumption | exact Ext.refl _ | refine Ext.alloc ?_ _ | refine Ext.drew ?_ | refine Ext.setB ?_ (by first | omega | (simp only [size_alloc, size_setB, size_drew]; omega)) _ | refine Ext.trans ?_ (by assumption))))⟩

set_option maxRecDepth 10000 in
set_option maxHeartbeats 4000000 in
theorem yIsZero_spec [Om] (w : World) (hO : OmB w) (ap : Option Addr) (an acY a : Nat) (ha : NN w (ap, an, acY) a) (za : sz a ≤ 1000) : Ret Hvac.prog 91 #[.slice ap an acY] w fun u w' => Ext w w' ∧ u = .bool (decide (a = 0)) := by
  have hz00 := sz_zero
  refine Ret_of_W Hvac.func91 rfl rfl ?_
  refine W_seq ?_
  refine W_region rfl ?_
  refine WO_p (PS_assign_bool rfl) ?_
  refine WO_nil ?_
  refine thn_normal ?_
  refine W_seq ?_
  refine W_region rfl ?_
  refine WO_p (PS_move_slice rfl) ?_
  refine WO_call Hvac.call76 (by rfl) (Ret.mono (nCmp_spec (by first | exact NN.nil _ | assumption | exact NN.ext (by assumption) (by repeat (first | assumption | exact Ext.refl _ | refine Ext.alloc ?_ _ | refine Ext.drew ?_ | refine Ext.setB ?_ (by first | omega | (simp only [size_alloc, size_setB, size_drew]; omega)) _ | exact Ext.trans (by assumption) (by assumption) | refine Ext.trans ?_ (by assumption)))) (by first | exact NN.nil _ | assumption | exact NN.ext (by assumption) (by repeat (first | assumption | exact Ext.refl _ | refine Ext.alloc ?_ _ | refine Ext.drew ?_ | refine Ext.setB ?_ (by first | omega | (simp only [size_alloc, size_setB, size_drew]; omega)) _ | exact Ext.trans (by assumption) (by assumption) | refine Ext.trans ?_ (by assumption)))) (by first | assumption | omega) (by first | assumption | omega)) ?_)
  rintro _ w76_0 ⟨hE76_0, rfl⟩
  have hz76_0 := hE76_0.1
  try simp only [size_alloc, size_setB, size_drew] at hz76_0
  refine WO_p (PS_eql rfl rfl) ?_
  refine WO_p (PS_assign_bool rfl) ?_
  refine WO_nil ?_
  refine thn_normal ?_
  refine W_ret ?_
  refine bodyQ_ret1 Hvac.results91 rfl (.bool _) rfl ?_
  exact ⟨(by repeat (first | assumption | exact Ext.refl _ | refine Ext.alloc ?_ _ | refine Ext.drew ?_ | refine Ext.setB ?_ (by first | omega | (simp only [size_alloc, size_setB, size_drew]; omega)) _ | refine Ext.trans ?_ (by assumption))), congrArg Value.bool (al_dd.2 cmpI_eq)⟩

set_option maxRecDepth 10000 in
set_option maxHeartbeats 4000000 in
theorem word_spec [Om] (w : World) (hO : OmB w) (ap : Option Addr) (an acY a : Nat) (ha : NN w (ap, an, acY) a) (za : sz a ≤ 1000) : Ret Hvac.prog 38 #[.slice ap an acY] w fun u w' => Ext w w' ∧ u = .agg (ic .u8 (be32N a)) := by
  have hbl := (be32N_by a).1
  refine Ret_of_W Hvac.func38 rfl rfl ?_
  refine W_seq ?_
  refine W_region rfl ?_
  refine WO_allocG Hvac.zeroValue28 ?_
  intro b2 v2 hg2 hE2 hH2 hl2
  try simp only [size_alloc, size_setB, size_drew] at hg2
  have hzz2 := hE2.1
  try simp only [size_alloc, size_setB, size_drew] at hzz2
  replace hH2 : Hb v2 b2 (.cells (ic .u8 (List.replicate 32 0)) 28 (0, 0)) := hH2
  refine WO_nil ?_
  refine thn_normal ?_
  refine W_seq ?_
  refine W_region rfl ?_
  refine WO_p (PS_move_slice rfl) ?_
  refine WO_call Hvac.call102 (by rfl) (Ret.mono (nBE32_spec (by first | exact NN.nil _ | assumption | exact NN.ext (by assumption) (by repeat (first | assumption | exact Ext.refl _ | refine Ext.alloc ?_ _ | refine Ext.drew ?_ | refine Ext.setB ?_ (by first | omega | (simp only [size_alloc, size_setB, size_drew]; omega)) _ | exact Ext.trans (by assumption) (by assumption) | refine Ext.trans ?_ (by assumption)))) (by first | assumption | omega)) ?_)
  rintro _ w102_0 ⟨hE102_0, rfl⟩
  have hz102_0 := hE102_0.1
  try simp only [size_alloc, size_setB, size_drew] at hz102_0
  refine WO_p (PS_move_tuple rfl) ?_
  refine WO_p (PS_extract_agg rfl rfl) ?_
  refine WO_p (PS_extract_bool rfl rfl) ?_
  refine WO_allocG Hvac.zeroValue27 ?_
  intro b3 v3 hg3 hE3 hH3 hl3
  try simp only [size_alloc, size_setB, size_drew] at hg3
  have hzz3 := hE3.1
  try simp only [size_alloc, size_setB, size_drew] at hzz3
  replace hH3 : Hb v3 b3 (.cells (ic .u8 (List.replicate 32 0)) 27 (0, 0)) := hH3
  first | refine WO_storeW Hvac.sizeOf27 rfl (v := .agg _) rfl (Hb.h (by repeat (first | assumption | exact Hb.newY _ _ | refine Hb.alloc ?_ | refine Hb.drew ?_ | refine Hb.ext (by assumption) ?_ | exact Hb.setSameL (by first | omega | (simp only [size_alloc, size_setB, size_drew]; omega)) | exact Hb.setSame (by assumption) | refine Hb.set (by first | omega | (simp only [size_alloc, size_setB, size_drew]; omega)) ?_ ))) rfl (by first | omega | assumption | rfl | decide | exact Nat.le_refl _ | (simp only [size_ic, Value.cells]; omega) | simp) (by first | omega | assumption | rfl | decide | exact Nat.le_refl _ | (simp only [size_ic, Value.cells]; omega) | simp) (by first | exact oneCell_ic | assumption) ?_ | refine WO_store Hvac.sizeOf27 rfl (v := .agg _) rfl (Hb.h (by repeat (first | assumption | exact Hb.newY _ _ | refine Hb.alloc ?_ | refine Hb.drew ?_ | refine Hb.ext (by assumption) ?_ | exact Hb.setSameL (by first | omega | (simp only [size_alloc, size_setB, size_drew]; omega)) | exact Hb.setSame (by assumption) | refine Hb.set (by first | omega | (simp only [size_alloc, size_setB, size_drew]; omega)) ?_ ))) (by first | omega | assumption | rfl | decide | exact Nat.le_refl _ | (simp only [size_ic, Value.cells]; omega) | simp) (by first | omega | assumption | rfl | decide | exact Nat.le_refl _ | (simp only [size_ic, Value.cells]; omega) | simp) (by first | exact oneCell_ic | assumption) ?_
  refine WO_p (PS_assign_bool rfl) ?_
  refine WO_nil ?_
  refine thn_normal ?_
  refine W_seq ?_
  refine W_region rfl ?_
  refine WO_loadA _ Hvac.isAgg27 Hvac.sizeOf27 rfl (Hb.h (by repeat (first | assumption | exact Hb.newY _ _ | refine Hb.alloc ?_ | refine Hb.drew ?_ | refine Hb.ext (by assumption) ?_ | exact Hb.setSameL (by first | omega | (simp only [size_alloc, size_setB, size_drew]; omega)) | exact Hb.setSame (by assumption) | refine Hb.set (by first | omega | (simp only [size_alloc, size_setB, size_drew]; omega)) ?_ ))) (by first | omega | assumption | rfl | decide | exact Nat.le_refl _ | (simp only [size_ic, Value.cells]; omega) | simp) (Xt.h (by first | assumption | exact Xt.whole rfl rfl | exact Xt.whole rfl (by simp only [size_ic, Value.cells]; omega) | exact ⟨rfl⟩)) ?_
  first | refine WO_storeW Hvac.sizeOf28 rfl (v := .agg _) rfl (Hb.h (by repeat (first | assumption | exact Hb.newY _ _ | refine Hb.alloc ?_ | refine Hb.drew ?_ | refine Hb.ext (by assumption) ?_ | exact Hb.setSameL (by first | omega | (simp only [size_alloc, size_setB, size_drew]; omega)) | exact Hb.setSame (by assumption) | refine Hb.set (by first | omega | (simp only [size_alloc, size_setB, size_drew]; omega)) ?_ ))) rfl (by first | omega | assumption | rfl | decide | exact Nat.le_refl _ | (simp only [size_ic, Value.cells]; omega) | simp) (by first | omega | assumption | rfl | decide | exact Nat.le_refl _ | (simp only [size_ic, Value.cells]; omega) | simp) (by first | exact oneCell_ic | assumption) ?_ | refine WO_store Hvac.sizeOf28 rfl (v := .agg _) rfl (Hb.h (by repeat (first | assumption | exact Hb.newY _ _ | refine Hb.alloc ?_ | refine Hb.drew ?_ | refine Hb.ext (by assumption) ?_ | exact Hb.setSameL (by first | omega | (simp only [size_alloc, size_setB, size_drew]; omega)) | exact Hb.setSame (by assumption) | refine Hb.set (by first | omega | (simp only [size_alloc, size_setB, size_drew]; omega)) ?_ ))) (by first | omega | assumption | rfl | decide | exact Nat.le_refl _ | (simp only [size_ic, Value.cells]; omega) | simp) (by first | omega | assumption | rfl | decide | exact Nat.le_refl _ | (simp only [size_ic, Value.cells]; omega) | simp) (by first | exact oneCell_ic | assumption) ?_
  refine WO_nil ?_
  refine thn_normal ?_
  refine W_ret ?_
  refine bodyQ_cell1 Hvac.results38 rfl Hvac.isAgg28 Hvac.sizeOf28 rfl (Hb.h (by repeat (first | assumption | exact Hb.newY _ _ | refine Hb.alloc ?_ | refine Hb.drew ?_ | refine Hb.ext (by assumption) ?_ | exact Hb.setSameL (by first | omega | (simp only [size_alloc, size_setB, size_drew]; omega)) | exact Hb.setSame (by assumption) | refine Hb.set (by first | omega | (simp only [size_alloc, size_setB, size_drew]; omega)) ?_ ))) (by first | omega | assumption | rfl | decide | exact Nat.le_refl _ | (simp only [size_ic, Value.cells]; omega) | simp) ?_
  exact ⟨(by repeat (first | assumption | exact Ext.refl _ | refine Ext.alloc ?_ _ | refine Ext.drew ?_ | refine Ext.setB ?_ (by first | omega | (simp only [size_alloc, size_setB, size_drew]; omega)) _ | refine Ext.trans ?_ (by assumption))), rfl⟩

set_option maxRecDepth 10000 in
set_option maxHeartbeats 4000000 in
theorem small_spec2 [Om] (w : World) (hO : OmB w) (ap : Option Addr) (an acY a : Nat) (ha : NN w (ap, an, acY) a) (za : sz a ≤ 1000) : Ret Hvac.prog 37 #[.slice ap an acY] w fun u w' => Ext w w' ∧ u = .int .u64 (ysmall a) := by
  refine Ret_of_W Hvac.func37 rfl rfl ?_
  refine W_seq ?_
  refine W_region rfl ?_
  refine WO_p (PS_assign_int rfl) ?_
  refine WO_nil ?_
  refine thn_normal ?_
  refine W_seq ?_
  refine W_region rfl ?_
  refine WO_p (PS_move_slice rfl) ?_
  refine WO_call Hvac.call101 (by rfl) (Ret.mono (nU64_spec (by first | exact NN.nil _ | assumption | exact NN.ext (by assumption) (by repeat (first | assumption | exact Ext.refl _ | refine Ext.alloc ?_ _ | refine Ext.drew ?_ | refine Ext.setB ?_ (by first | omega | (simp only [size_alloc, size_setB, size_drew]; omega)) _ | exact Ext.trans (by assumption) (by assumption) | refine Ext.trans ?_ (by assumption)))) (by first | assumption | omega)) ?_)
  rintro _ w101_0 ⟨hE101_0, rfl⟩
  have hz101_0 := hE101_0.1
  try simp only [size_alloc, size_setB, size_drew] at hz101_0
  refine WO_p (PS_move_tuple rfl) ?_
  refine WO_p (PS_extract_int rfl rfl) ?_
  refine WO_p (PS_extract_bool rfl rfl) ?_
  refine WO_p (PS_assign_int rfl) ?_
  refine WO_p (PS_assign_bool rfl) ?_
  refine WO_nil ?_
  refine thn_normal ?_
  refine W_seq ?_
  refine W_region rfl ?_
  refine WO_p (PS_move_int rfl) ?_
  refine WO_p (PS_assign_int rfl) ?_
  refine WO_nil ?_
  refine thn_normal ?_
  refine W_ret ?_
  refine bodyQ_ret1 Hvac.results37 rfl (.int _ _) rfl ?_
  exact ⟨(by repeat (first | assumption | exact Ext.refl _ | refine Ext.alloc ?_ _ | refine Ext.drew ?_ | refine Ext.setB ?_ (by first | omega | (simp only [size_alloc, size_setB, size_drew]; omega)) _ | refine Ext.trans ?_ (by assumption))), rfl⟩

set_option maxRecDepth 10000 in
set_option maxHeartbeats 4000000 in
theorem place_spec [Om] (w : World) (hO : OmB w) (ap : Option Addr) (an acY a : Nat) (ha : NN w (ap, an, acY) a) (za : sz a ≤ 1000) (l : Nat) (hl : l ≤ 100000000) : Ret Hvac.prog 110 #[.slice ap an acY, .int .i64 l] w fun u w' => Ext w w' ∧ u = .tuple #[.int .i64 (if a < l then (a : Int) else 0), .bool (decide (a < l))] := by
  refine Ret_of_W Hvac.func110 rfl rfl ?_
  refine W_seq ?_
  refine W_region rfl ?_
  refine WO_p (PS_assign_int rfl) ?_
  refine WO_p (PS_assign_bool rfl) ?_
  refine WO_nil ?_
  refine thn_normal ?_
  refine W_seq ?_
  refine W_region rfl ?_
  refine WO_p (PS_move_slice rfl) ?_
  refine WO_call Hvac.call101 (by rfl) (Ret.mono (nU64_spec (by first | exact NN.nil _ | assumption | exact NN.ext (by assumption) (by repeat (first | assumption | exact Ext.refl _ | refine Ext.alloc ?_ _ | refine Ext.drew ?_ | refine Ext.setB ?_ (by first | omega | (simp only [size_alloc, size_setB, size_drew]; omega)) _ | exact Ext.trans (by assumption) (by assumption) | refine Ext.trans ?_ (by assumption)))) (by first | assumption | omega)) ?_)
  rintro _ w101_0 ⟨hE101_0, rfl⟩
  have hz101_0 := hE101_0.1
  try simp only [size_alloc, size_setB, size_drew] at hz101_0
  refine WO_p (PS_move_tuple rfl) ?_
  refine WO_p (PS_extract_int rfl rfl) ?_
  refine WO_p (PS_extract_bool rfl rfl) ?_
  refine WO_p (PS_assign_int rfl) ?_
  refine WO_p (PS_assign_bool rfl) ?_
  refine WO_nil ?_
  refine thn_normal ?_
  refine W_seq ?_
  refine W_seq ?_
  refine W_region rfl ?_
  refine WO_p (PS_move_bool rfl) ?_
  refine WO_p (PS_not rfl) ?_
  refine WO_p (PS_move_bool rfl) ?_
  refine WO_if (t := 15) rfl (fun hb4 => ?_) (fun hb4 => ?_)
  · have hb4p := hb4.h; try simp only [al_ete, al_dfn, Bool.not_eq_true', Bool.not_eq_false', al_ne, Bool.not_not, al_nn] at hb4p
    have hbig : ¬ a < l := by omega
    refine WO_guardF rfl rfl hb4.h ?_
    refine WO_guardF rfl rfl hb4.h ?_
    refine WO_guardF rfl rfl hb4.h ?_
    refine WO_guardF rfl rfl hb4.h ?_
    refine WO_p (PS_pickT rfl hb4.h rfl) ?_
    refine WO_nil ?_
    refine thn_normal ?_
    refine W_condT rfl rfl ?_
    refine W_seq ?_
    refine W_region rfl ?_
    refine WO_p (PS_assign_int rfl) ?_
    refine WO_p (PS_assign_bool rfl) ?_
    refine WO_nil ?_
    refine thn_normal ?_
    refine W_ret ?_
    refine thn_ret ?_
    refine bodyQ_ret2 Hvac.results110 rfl rfl (.int _ _) (.bool _) rfl rfl ?_
    first
    | (refine ⟨(by repeat (first | assumption | exact Ext.refl _ | refine Ext.alloc ?_ _ | refine Ext.drew ?_ | refine Ext.setB ?_ (by first | omega | (simp only [size_alloc, size_setB, size_drew]; omega)) _ | refine Ext.trans ?_ (by assumption))), ?_⟩
       rw [if_neg hbig, al_ef hbig] <;> rfl)
    | (refine ⟨(by repeat (first | assumption | exact Ext.refl _ | refine Ext.alloc ?_ _ | refine Ext.drew ?_ | refine Ext.setB ?_ (by first | omega | (simp only [size_alloc, size_setB, size_drew]; omega)) _ | refine Ext.trans ?_ (by assumption))), ?_⟩
       rw [if_pos hin, al_et hin] <;> rfl)
  · have hb4p := hb4.h; try simp only [al_ete, al_dfn, Bool.not_eq_true', Bool.not_eq_false', al_ne, Bool.not_not, al_nn] at hb4p
    have hsm : a < 18446744073709551616 := by omega
    rw [if_pos hsm]
    refine WO_guardT rfl rfl hb4.h ?_
    refine WO_p (PS_move_int rfl) ?_
    refine WO_guardT rfl rfl hb4.h ?_
    refine WO_p (PS_move_int rfl) ?_
    refine WO_guardT rfl rfl hb4.h ?_
    refine WO_p (PS_conv_u64n Hvac.runUnderlying3 Hvac.runUnderlying26 rfl (by omega) (by omega)) ?_
    refine WO_guardT rfl rfl hb4.h ?_
    refine WO_p (PS_geq rfl rfl) ?_
    refine WO_p (PS_pickF rfl hb4.h rfl) ?_
    refine WO_nil ?_
    refine thn_normal ?_
    refine W_if rfl (fun hb6 => ?_) (fun hb6 => ?_)
    · have hb6p := hb6.h; try simp only [al_ete, al_dfn, Bool.not_eq_true', Bool.not_eq_false', al_ne, Bool.not_not, al_nn] at hb6p
      have hbig : ¬ a < l := by omega
      refine W_seq ?_
      refine W_region rfl ?_
      refine WO_p (PS_assign_int rfl) ?_
      refine WO_p (PS_assign_bool rfl) ?_
      refine WO_nil ?_
      refine thn_normal ?_
      refine W_ret ?_
      refine thn_ret ?_
      refine bodyQ_ret2 Hvac.results110 rfl rfl (.int _ _) (.bool _) rfl rfl ?_
      first
      | (refine ⟨(by repeat (first | assumption | exact Ext.refl _ | refine Ext.alloc ?_ _ | refine Ext.drew ?_ | refine Ext.setB ?_ (by first | omega | (simp only [size_alloc, size_setB, size_drew]; omega)) _ | refine Ext.trans ?_ (by assumption))), ?_⟩
         rw [if_neg hbig, al_ef hbig] <;> rfl)
      | (refine ⟨(by repeat (first | assumption | exact Ext.refl _ | refine Ext.alloc ?_ _ | refine Ext.drew ?_ | refine Ext.setB ?_ (by first | omega | (simp only [size_alloc, size_setB, size_drew]; omega)) _ | refine Ext.trans ?_ (by assumption))), ?_⟩
         rw [if_pos hin, al_et hin] <;> rfl)
    · have hb6p := hb6.h; try simp only [al_ete, al_dfn, Bool.not_eq_true', Bool.not_eq_false', al_ne, Bool.not_not, al_nn] at hb6p
      have hin : a < l := by omega
      refine W_skip ?_
      refine thn_normal ?_
      refine W_seq ?_
      refine W_region rfl ?_
      refine WO_p (PS_move_int rfl) ?_
      refine WO_p (PS_conv_i64n Hvac.runUnderlying26 Hvac.runUnderlying3 rfl (by omega) (by omega)) ?_
      refine WO_p (PS_assign_int rfl) ?_
      refine WO_p (PS_assign_bool rfl) ?_
      refine WO_nil ?_
      refine thn_normal ?_
      refine W_ret ?_
      refine bodyQ_ret2 Hvac.results110 rfl rfl (.int _ _) (.bool _) rfl rfl ?_
      first
      | (refine ⟨(by repeat (first | assumption | exact Ext.refl _ | refine Ext.alloc ?_ _ | refine Ext.drew ?_ | refine Ext.setB ?_ (by first | omega | (simp only [size_alloc, size_setB, size_drew]; omega)) _ | refine Ext.trans ?_ (by assumption))), ?_⟩
         rw [if_neg hbig, al_ef hbig] <;> rfl)
      | (refine ⟨(by repeat (first | assumption | exact Ext.refl _ | refine Ext.alloc ?_ _ | refine Ext.drew ?_ | refine Ext.setB ?_ (by first | omega | (simp only [size_alloc, size_setB, size_drew]; omega)) _ | refine Ext.trans ?_ (by assumption))), ?_⟩
         rw [if_pos hin, al_et hin] <;> rfl)

theorem sz_yw [Om] {w : World} {s : SV} {a : Nat} (h : NN w s (ywords a)) : sz (ywords a) ≤ sz a + 1 := sz_ywords a
set_option maxRecDepth 10000 in
set_option maxHeartbeats 4000000 in
theorem yend_spec [Om] (w : World) (hO : OmB w) (ap : Option Addr) (an acY a : Nat) (ha : NN w (ap, an, acY) a) (za : sz a ≤ 1000) (bp : Option Addr) (bn bc b : Nat) (hb : NN w (bp, bn, bc) b) (zb : sz b ≤ 1000) : Ret Hvac.prog 118 #[.slice ap an acY, .slice bp bn bc] w fun u w' => Ext w w' ∧ ∃ s' : SV, u = .slice s'.1 s'.2.1 s'.2.2 ∧ NN w' s' (yend a b) := by
  refine Ret_of_W Hvac.func118 rfl rfl ?_
  refine W_seq ?_
  refine W_region rfl ?_
  refine WO_p (PS_assign_slice rfl) ?_
  refine WO_nil ?_
  refine thn_normal ?_
  refine W_seq ?_
  refine W_seq ?_
  refine W_region rfl ?_
  refine WO_p (PS_move_slice rfl) ?_
  refine WO_call Hvac.call91 (by rfl) (Ret.mono (yIsZero_spec _ (OmB.ext hO (by repeat (first | assumption | exact Ext.refl _ | refine Ext.alloc ?_ _ | refine Ext.drew ?_ | refine Ext.setB ?_ (by first | omega | (simp only [size_alloc, size_setB, size_drew]; omega)) _ | exact Ext.trans (by assumption) (by assumption) | refine Ext.trans ?_ (by assumption)))) _ _ _ _ (by first | exact NN.nil _ | assumption | exact NN.ext (by assumption) (by repeat (first | assumption | exact Ext.refl _ | refine Ext.alloc ?_ _ | refine Ext.drew ?_ | refine Ext.setB ?_ (by first | omega | (simp only [size_alloc, size_setB, size_drew]; omega)) _ | exact Ext.trans (by assumption) (by assumption) | refine Ext.trans ?_ (by assumption)))) (by first | assumption | omega)) ?_)
  rintro _ w91_0 ⟨hE91_0, rfl⟩
  have hz91_0 := hE91_0.1
  try simp only [size_alloc, size_setB, size_drew] at hz91_0
  refine WO_nil ?_
  refine thn_normal ?_
  refine W_if rfl (fun hb2 => ?_) (fun hb2 => ?_)
  · have hb2p := hb2.h; try simp only [al_ete, al_dfn, Bool.not_eq_true', Bool.not_eq_false', al_ne, Bool.not_not, al_nn] at hb2p
    unfold yend
    rw [if_pos hb2p]
    refine W_seq ?_
    refine W_region rfl ?_
    refine WO_p (PS_assign_slice rfl) ?_
    refine WO_nil ?_
    refine thn_normal ?_
    refine W_ret ?_
    refine thn_ret ?_
    refine bodyQ_ret1 Hvac.results118 rfl (.slice _ _ _) rfl ?_
    first
    | exact ⟨(by repeat (first | assumption | exact Ext.refl _ | refine Ext.alloc ?_ _ | refine Ext.drew ?_ | refine Ext.setB ?_ (by first | omega | (simp only [size_alloc, size_setB, size_drew]; omega)) _ | refine Ext.trans ?_ (by assumption))), (none, 0, 0), rfl, NN.nil _⟩
    | exact ⟨(by repeat (first | assumption | exact Ext.refl _ | refine Ext.alloc ?_ _ | refine Ext.drew ?_ | refine Ext.setB ?_ (by first | omega | (simp only [size_alloc, size_setB, size_drew]; omega)) _ | refine Ext.trans ?_ (by assumption))), _, rfl, (by first | exact NN.nil _ | assumption | exact NN.ext (by assumption) (by repeat (first | assumption | exact Ext.refl _ | refine Ext.alloc ?_ _ | refine Ext.drew ?_ | refine Ext.setB ?_ (by first | omega | (simp only [size_alloc, size_setB, size_drew]; omega)) _ | refine Ext.trans ?_ (by assumption))))⟩
  · have hb2p := hb2.h; try simp only [al_ete, al_dfn, Bool.not_eq_true', Bool.not_eq_false', al_ne, Bool.not_not, al_nn] at hb2p
    unfold yend
    rw [if_neg hb2p]
    refine W_skip ?_
    refine thn_normal ?_
    refine W_seq ?_
    refine W_region rfl ?_
    refine WO_p (PS_move_slice rfl) ?_
    refine WO_p (PS_move_slice rfl) ?_
    refine WO_call Hvac.call24 (by rfl) (Ret.mono (nAdd_spec (OmB.ext hO (by repeat (first | assumption | exact Ext.refl _ | refine Ext.alloc ?_ _ | refine Ext.drew ?_ | refine Ext.setB ?_ (by first | omega | (simp only [size_alloc, size_setB, size_drew]; omega)) _ | exact Ext.trans (by assumption) (by assumption) | refine Ext.trans ?_ (by assumption)))) (by first | exact NN.nil _ | assumption | exact NN.ext (by assumption) (by repeat (first | assumption | exact Ext.refl _ | refine Ext.alloc ?_ _ | refine Ext.drew ?_ | refine Ext.setB ?_ (by first | omega | (simp only [size_alloc, size_setB, size_drew]; omega)) _ | exact Ext.trans (by assumption) (by assumption) | refine Ext.trans ?_ (by assumption)))) (by first | exact NN.nil _ | assumption | exact NN.ext (by assumption) (by repeat (first | assumption | exact Ext.refl _ | refine Ext.alloc ?_ _ | refine Ext.drew ?_ | refine Ext.setB ?_ (by first | omega | (simp only [size_alloc, size_setB, size_drew]; omega)) _ | exact Ext.trans (by assumption) (by assumption) | refine Ext.trans ?_ (by assumption)))) (by first | assumption | omega) (by first | assumption | omega)) ?_)
    rintro _ w24_2 ⟨hE24_2, s24_2, rfl, hN24_2⟩
    have hz24_2 := hE24_2.1
    try simp only [size_alloc, size_setB, size_drew] at hz24_2
    have hs24_2 := hN24_2.z_add
    refine WO_p (PS_assign_slice rfl) ?_
    refine WO_nil ?_
    refine thn_normal ?_
    refine W_ret ?_
    refine bodyQ_ret1 Hvac.results118 rfl (.slice _ _ _) rfl ?_
    first
    | exact ⟨(by repeat (first | assumption | exact Ext.refl _ | refine Ext.alloc ?_ _ | refine Ext.drew ?_ | refine Ext.setB ?_ (by first | omega | (simp only [size_alloc, size_setB, size_drew]; omega)) _ | refine Ext.trans ?_ (by assumption))), (none, 0, 0), rfl, NN.nil _⟩
    | exact ⟨(by repeat (first | assumption | exact Ext.refl _ | refine Ext.alloc ?_ _ | refine Ext.drew ?_ | refine Ext.setB ?_ (by first | omega | (simp only [size_alloc, size_setB, size_drew]; omega)) _ | refine Ext.trans ?_ (by assumption))), _, rfl, (by first | exact NN.nil _ | assumption | exact NN.ext (by assumption) (by repeat (first | assumption | exact Ext.refl _ | refine Ext.alloc ?_ _ | refine Ext.drew ?_ | refine Ext.setB ?_ (by first | omega | (simp only [size_alloc, size_setB, size_drew]; omega)) _ | refine Ext.trans ?_ (by assumption))))⟩

set_option maxRecDepth 10000 in
set_option maxHeartbeats 4000000 in
theorem memCost_spec2 [Om] (w : World) (hO : OmB w) (ap : Option Addr) (an acY a : Nat) (ha : NN w (ap, an, acY) a) (za : sz a ≤ 1000) : Ret Hvac.prog 198 #[.slice ap an acY] w fun u w' => Ext w w' ∧ ∃ s' : SV, u = .slice s'.1 s'.2.1 s'.2.2 ∧ NN w' s' (ymem a) := by
  refine Ret_of_W Hvac.func198 rfl rfl ?_
  refine W_seq ?_
  refine W_region rfl ?_
  refine WO_p (PS_assign_slice rfl) ?_
  refine WO_nil ?_
  refine thn_normal ?_
  refine W_seq ?_
  refine W_region rfl ?_
  refine WO_call Hvac.call19 (by rfl) (Ret.mono (nNum_spec (OmB.ext hO (by repeat (first | assumption | exact Ext.refl _ | refine Ext.alloc ?_ _ | refine Ext.drew ?_ | refine Ext.setB ?_ (by first | omega | (simp only [size_alloc, size_setB, size_drew]; omega)) _ | exact Ext.trans (by assumption) (by assumption) | refine Ext.trans ?_ (by assumption)))) ⟨by omega, by omega⟩) ?_)
  rintro _ w19_0 ⟨hE19_0, s19_0, rfl, hN19_0, hs19_0⟩
  have hz19_0 := hE19_0.1
  try simp only [size_alloc, size_setB, size_drew] at hz19_0
  try simp only [Int.toNat_natCast, toNat_lit] at hN19_0 hs19_0
  refine WO_p (PS_move_slice rfl) ?_
  refine WO_call Hvac.call26 (by rfl) (Ret.mono (nMul_spec (OmB.ext hO (by repeat (first | assumption | exact Ext.refl _ | refine Ext.alloc ?_ _ | refine Ext.drew ?_ | refine Ext.setB ?_ (by first | omega | (simp only [size_alloc, size_setB, size_drew]; omega)) _ | exact Ext.trans (by assumption) (by assumption) | refine Ext.trans ?_ (by assumption)))) (by first | exact NN.nil _ | assumption | exact NN.ext (by assumption) (by repeat (first | assumption | exact Ext.refl _ | refine Ext.alloc ?_ _ | refine Ext.drew ?_ | refine Ext.setB ?_ (by first | omega | (simp only [size_alloc, size_setB, size_drew]; omega)) _ | exact Ext.trans (by assumption) (by assumption) | refine Ext.trans ?_ (by assumption)))) (by first | exact NN.nil _ | assumption | exact NN.ext (by assumption) (by repeat (first | assumption | exact Ext.refl _ | refine Ext.alloc ?_ _ | refine Ext.drew ?_ | refine Ext.setB ?_ (by first | omega | (simp only [size_alloc, size_setB, size_drew]; omega)) _ | exact Ext.trans (by assumption) (by assumption) | refine Ext.trans ?_ (by assumption)))) (by first | assumption | omega) (by first | assumption | omega)) ?_)
  rintro _ w26_1 ⟨hE26_1, s26_1, rfl, hN26_1⟩
  have hz26_1 := hE26_1.1
  try simp only [size_alloc, size_setB, size_drew] at hz26_1
  have hs26_1 := hN26_1.z_mul
  refine WO_p (PS_move_slice rfl) ?_
  refine WO_p (PS_move_slice rfl) ?_
  refine WO_call Hvac.call26 (by rfl) (Ret.mono (nMul_spec (OmB.ext hO (by repeat (first | assumption | exact Ext.refl _ | refine Ext.alloc ?_ _ | refine Ext.drew ?_ | refine Ext.setB ?_ (by first | omega | (simp only [size_alloc, size_setB, size_drew]; omega)) _ | exact Ext.trans (by assumption) (by assumption) | refine Ext.trans ?_ (by assumption)))) (by first | exact NN.nil _ | assumption | exact NN.ext (by assumption) (by repeat (first | assumption | exact Ext.refl _ | refine Ext.alloc ?_ _ | refine Ext.drew ?_ | refine Ext.setB ?_ (by first | omega | (simp only [size_alloc, size_setB, size_drew]; omega)) _ | exact Ext.trans (by assumption) (by assumption) | refine Ext.trans ?_ (by assumption)))) (by first | exact NN.nil _ | assumption | exact NN.ext (by assumption) (by repeat (first | assumption | exact Ext.refl _ | refine Ext.alloc ?_ _ | refine Ext.drew ?_ | refine Ext.setB ?_ (by first | omega | (simp only [size_alloc, size_setB, size_drew]; omega)) _ | exact Ext.trans (by assumption) (by assumption) | refine Ext.trans ?_ (by assumption)))) (by first | assumption | omega) (by first | assumption | omega)) ?_)
  rintro _ w26_2 ⟨hE26_2, s26_2, rfl, hN26_2⟩
  have hz26_2 := hE26_2.1
  try simp only [size_alloc, size_setB, size_drew] at hz26_2
  have hs26_2 := hN26_2.z_mul
  refine WO_call Hvac.call162 (by rfl) (Ret.mono (divided_spec _ (OmB.ext hO (by repeat (first | assumption | exact Ext.refl _ | refine Ext.alloc ?_ _ | refine Ext.drew ?_ | refine Ext.setB ?_ (by first | omega | (simp only [size_alloc, size_setB, size_drew]; omega)) _ | exact Ext.trans (by assumption) (by assumption) | refine Ext.trans ?_ (by assumption)))) _ _ _ _ (by first | exact NN.nil _ | assumption | exact NN.ext (by assumption) (by repeat (first | assumption | exact Ext.refl _ | refine Ext.alloc ?_ _ | refine Ext.drew ?_ | refine Ext.setB ?_ (by first | omega | (simp only [size_alloc, size_setB, size_drew]; omega)) _ | exact Ext.trans (by assumption) (by assumption) | refine Ext.trans ?_ (by assumption)))) (by first | assumption | omega) _ ⟨by omega, by omega⟩) ?_)
  rintro _ w162_3 ⟨hE162_3, s162_3, rfl, hN162_3⟩
  have hz162_3 := hE162_3.1
  try simp only [size_alloc, size_setB, size_drew] at hz162_3
  try simp only [Int.toNat_natCast, toNat_lit] at hN162_3
  have hs162_3 := hN162_3.z_div
  refine WO_call Hvac.call24 (by rfl) (Ret.mono (nAdd_spec (OmB.ext hO (by repeat (first | assumption | exact Ext.refl _ | refine Ext.alloc ?_ _ | refine Ext.drew ?_ | refine Ext.setB ?_ (by first | omega | (simp only [size_alloc, size_setB, size_drew]; omega)) _ | exact Ext.trans (by assumption) (by assumption) | refine Ext.trans ?_ (by assumption)))) (by first | exact NN.nil _ | assumption | exact NN.ext (by assumption) (by repeat (first | assumption | exact Ext.refl _ | refine Ext.alloc ?_ _ | refine Ext.drew ?_ | refine Ext.setB ?_ (by first | omega | (simp only [size_alloc, size_setB, size_drew]; omega)) _ | exact Ext.trans (by assumption) (by assumption) | refine Ext.trans ?_ (by assumption)))) (by first | exact NN.nil _ | assumption | exact NN.ext (by assumption) (by repeat (first | assumption | exact Ext.refl _ | refine Ext.alloc ?_ _ | refine Ext.drew ?_ | refine Ext.setB ?_ (by first | omega | (simp only [size_alloc, size_setB, size_drew]; omega)) _ | exact Ext.trans (by assumption) (by assumption) | refine Ext.trans ?_ (by assumption)))) (by first | assumption | omega) (by first | assumption | omega)) ?_)
  rintro _ w24_4 ⟨hE24_4, s24_4, rfl, hN24_4⟩
  have hz24_4 := hE24_4.1
  try simp only [size_alloc, size_setB, size_drew] at hz24_4
  have hs24_4 := hN24_4.z_add
  refine WO_p (PS_assign_slice rfl) ?_
  refine WO_nil ?_
  refine thn_normal ?_
  refine W_ret ?_
  refine bodyQ_ret1 Hvac.results198 rfl (.slice _ _ _) rfl ?_
  exact ⟨(by repeat (first | assumption | exact Ext.refl _ | refine Ext.alloc ?_ _ | refine Ext.drew ?_ | refine Ext.setB ?_ (by first | omega | (simp only [size_alloc, size_setB, size_drew]; omega)) _ | refine Ext.trans ?_ (by assumption))), _, rfl, (by first | exact NN.nil _ | assumption | exact NN.ext (by assumption) (by repeat (first | assumption | exact Ext.refl _ | refine Ext.alloc ?_ _ | refine Ext.drew ?_ | refine Ext.setB ?_ (by first | omega | (simp only [size_alloc, size_setB, size_drew]; omega)) _ | refine Ext.trans ?_ (by assumption))))⟩

set_option maxRecDepth 10000 in
set_option maxHeartbeats 4000000 in
theorem copyCost_spec2 [Om] (w : World) (hO : OmB w) (ap : Option Addr) (an acY a : Nat) (ha : NN w (ap, an, acY) a) (za : sz a ≤ 1000) : Ret Hvac.prog 296 #[.slice ap an acY] w fun u w' => Ext w w' ∧ ∃ s' : SV, u = .slice s'.1 s'.2.1 s'.2.2 ∧ NN w' s' (ycopy a) := by
  refine Ret_of_W Hvac.func296 rfl rfl ?_
  refine W_seq ?_
  refine W_region rfl ?_
  refine WO_p (PS_assign_slice rfl) ?_
  refine WO_nil ?_
  refine thn_normal ?_
  refine W_seq ?_
  refine W_region rfl ?_
  refine WO_call Hvac.call19 (by rfl) (Ret.mono (nNum_spec (OmB.ext hO (by repeat (first | assumption | exact Ext.refl _ | refine Ext.alloc ?_ _ | refine Ext.drew ?_ | refine Ext.setB ?_ (by first | omega | (simp only [size_alloc, size_setB, size_drew]; omega)) _ | exact Ext.trans (by assumption) (by assumption) | refine Ext.trans ?_ (by assumption)))) ⟨by omega, by omega⟩) ?_)
  rintro _ w19_0 ⟨hE19_0, s19_0, rfl, hN19_0, hs19_0⟩
  have hz19_0 := hE19_0.1
  try simp only [size_alloc, size_setB, size_drew] at hz19_0
  try simp only [Int.toNat_natCast, toNat_lit] at hN19_0 hs19_0
  refine WO_p (PS_move_slice rfl) ?_
  refine WO_call Hvac.call83 (by rfl) (Ret.mono (words_spec2 _ (OmB.ext hO (by repeat (first | assumption | exact Ext.refl _ | refine Ext.alloc ?_ _ | refine Ext.drew ?_ | refine Ext.setB ?_ (by first | omega | (simp only [size_alloc, size_setB, size_drew]; omega)) _ | exact Ext.trans (by assumption) (by assumption) | refine Ext.trans ?_ (by assumption)))) _ _ _ _ (by first | exact NN.nil _ | assumption | exact NN.ext (by assumption) (by repeat (first | assumption | exact Ext.refl _ | refine Ext.alloc ?_ _ | refine Ext.drew ?_ | refine Ext.setB ?_ (by first | omega | (simp only [size_alloc, size_setB, size_drew]; omega)) _ | exact Ext.trans (by assumption) (by assumption) | refine Ext.trans ?_ (by assumption)))) (by first | assumption | omega)) ?_)
  rintro _ w83_1 ⟨hE83_1, s83_1, rfl, hN83_1⟩
  have hz83_1 := hE83_1.1
  try simp only [size_alloc, size_setB, size_drew] at hz83_1
  have hs83_1 := sz_yw hN83_1
  refine WO_call Hvac.call26 (by rfl) (Ret.mono (nMul_spec (OmB.ext hO (by repeat (first | assumption | exact Ext.refl _ | refine Ext.alloc ?_ _ | refine Ext.drew ?_ | refine Ext.setB ?_ (by first | omega | (simp only [size_alloc, size_setB, size_drew]; omega)) _ | exact Ext.trans (by assumption) (by assumption) | refine Ext.trans ?_ (by assumption)))) (by first | exact NN.nil _ | assumption | exact NN.ext (by assumption) (by repeat (first | assumption | exact Ext.refl _ | refine Ext.alloc ?_ _ | refine Ext.drew ?_ | refine Ext.setB ?_ (by first | omega | (simp only [size_alloc, size_setB, size_drew]; omega)) _ | exact Ext.trans (by assumption) (by assumption) | refine Ext.trans ?_ (by assumption)))) (by first | exact NN.nil _ | assumption | exact NN.ext (by assumption) (by repeat (first | assumption | exact Ext.refl _ | refine Ext.alloc ?_ _ | refine Ext.drew ?_ | refine Ext.setB ?_ (by first | omega | (simp only [size_alloc, size_setB, size_drew]; omega)) _ | exact Ext.trans (by assumption) (by assumption) | refine Ext.trans ?_ (by assumption)))) (by first | assumption | omega) (by first | assumption | omega)) ?_)
  rintro _ w26_2 ⟨hE26_2, s26_2, rfl, hN26_2⟩
  have hz26_2 := hE26_2.1
  try simp only [size_alloc, size_setB, size_drew] at hz26_2
  have hs26_2 := hN26_2.z_mul
  refine WO_p (PS_assign_slice rfl) ?_
  refine WO_nil ?_
  refine thn_normal ?_
  refine W_ret ?_
  refine bodyQ_ret1 Hvac.results296 rfl (.slice _ _ _) rfl ?_
  exact ⟨(by repeat (first | assumption | exact Ext.refl _ | refine Ext.alloc ?_ _ | refine Ext.drew ?_ | refine Ext.setB ?_ (by first | omega | (simp only [size_alloc, size_setB, size_drew]; omega)) _ | refine Ext.trans ?_ (by assumption))), _, rfl, (by first | exact NN.nil _ | assumption | exact NN.ext (by assumption) (by repeat (first | assumption | exact Ext.refl _ | refine Ext.alloc ?_ _ | refine Ext.drew ?_ | refine Ext.setB ?_ (by first | omega | (simp only [size_alloc, size_setB, size_drew]; omega)) _ | refine Ext.trans ?_ (by assumption))))⟩

set_option maxRecDepth 10000 in
set_option maxHeartbeats 4000000 in
theorem expCost_spec2 [Om] (w : World) (hO : OmB w) (ap : Option Addr) (an acY a : Nat) (ha : NN w (ap, an, acY) a) (za : sz a ≤ 1000) : Ret Hvac.prog 295 #[.slice ap an acY] w fun u w' => Ext w w' ∧ ∃ s' : SV, u = .slice s'.1 s'.2.1 s'.2.2 ∧ NN w' s' (yexp a) := by
  refine Ret_of_W Hvac.func295 rfl rfl ?_
  refine W_seq ?_
  refine W_region rfl ?_
  refine WO_p (PS_assign_slice rfl) ?_
  refine WO_nil ?_
  refine thn_normal ?_
  refine W_seq ?_
  refine W_region rfl ?_
  refine WO_call Hvac.call19 (by rfl) (Ret.mono (nNum_spec (OmB.ext hO (by repeat (first | assumption | exact Ext.refl _ | refine Ext.alloc ?_ _ | refine Ext.drew ?_ | refine Ext.setB ?_ (by first | omega | (simp only [size_alloc, size_setB, size_drew]; omega)) _ | exact Ext.trans (by assumption) (by assumption) | refine Ext.trans ?_ (by assumption)))) ⟨by omega, by omega⟩) ?_)
  rintro _ w19_0 ⟨hE19_0, s19_0, rfl, hN19_0, hs19_0⟩
  have hz19_0 := hE19_0.1
  try simp only [size_alloc, size_setB, size_drew] at hz19_0
  try simp only [Int.toNat_natCast, toNat_lit] at hN19_0 hs19_0
  refine WO_call Hvac.call19 (by rfl) (Ret.mono (nNum_spec (OmB.ext hO (by repeat (first | assumption | exact Ext.refl _ | refine Ext.alloc ?_ _ | refine Ext.drew ?_ | refine Ext.setB ?_ (by first | omega | (simp only [size_alloc, size_setB, size_drew]; omega)) _ | exact Ext.trans (by assumption) (by assumption) | refine Ext.trans ?_ (by assumption)))) ⟨by omega, by omega⟩) ?_)
  rintro _ w19_1 ⟨hE19_1, s19_1, rfl, hN19_1, hs19_1⟩
  have hz19_1 := hE19_1.1
  try simp only [size_alloc, size_setB, size_drew] at hz19_1
  try simp only [Int.toNat_natCast, toNat_lit] at hN19_1 hs19_1
  refine WO_p (PS_move_slice rfl) ?_
  refine WO_call Hvac.call79 (by rfl) (Ret.mono (nNorm_spec (OmB.ext hO (by repeat (first | assumption | exact Ext.refl _ | refine Ext.alloc ?_ _ | refine Ext.drew ?_ | refine Ext.setB ?_ (by first | omega | (simp only [size_alloc, size_setB, size_drew]; omega)) _ | exact Ext.trans (by assumption) (by assumption) | refine Ext.trans ?_ (by assumption)))) (by first | exact NN.nil _ | assumption | exact NN.ext (by assumption) (by repeat (first | assumption | exact Ext.refl _ | refine Ext.alloc ?_ _ | refine Ext.drew ?_ | refine Ext.setB ?_ (by first | omega | (simp only [size_alloc, size_setB, size_drew]; omega)) _ | exact Ext.trans (by assumption) (by assumption) | refine Ext.trans ?_ (by assumption)))) (by first | assumption | omega)) ?_)
  rintro _ w79_2 ⟨hE79_2, s79_2, rfl, hN79_2⟩
  have hz79_2 := hE79_2.1
  try simp only [size_alloc, size_setB, size_drew] at hz79_2
  have hl79_2 := hN79_2.len
  rw [hl79_2]
  refine WO_p (PS_lenS Hvac.runUnderlying92 rfl) ?_
  refine WO_p (PS_conv_u64n Hvac.runUnderlying3 Hvac.runUnderlying26 rfl (by omega) (by omega)) ?_
  refine WO_call Hvac.call19 (by rfl) (Ret.mono (nNum_spec (OmB.ext hO (by repeat (first | assumption | exact Ext.refl _ | refine Ext.alloc ?_ _ | refine Ext.drew ?_ | refine Ext.setB ?_ (by first | omega | (simp only [size_alloc, size_setB, size_drew]; omega)) _ | exact Ext.trans (by assumption) (by assumption) | refine Ext.trans ?_ (by assumption)))) ⟨by omega, by omega⟩) ?_)
  rintro _ w19_3 ⟨hE19_3, s19_3, rfl, hN19_3, hs19_3⟩
  have hz19_3 := hE19_3.1
  try simp only [size_alloc, size_setB, size_drew] at hz19_3
  try simp only [Int.toNat_natCast, toNat_lit] at hN19_3 hs19_3
  refine WO_call Hvac.call26 (by rfl) (Ret.mono (nMul_spec (OmB.ext hO (by repeat (first | assumption | exact Ext.refl _ | refine Ext.alloc ?_ _ | refine Ext.drew ?_ | refine Ext.setB ?_ (by first | omega | (simp only [size_alloc, size_setB, size_drew]; omega)) _ | exact Ext.trans (by assumption) (by assumption) | refine Ext.trans ?_ (by assumption)))) (by first | exact NN.nil _ | assumption | exact NN.ext (by assumption) (by repeat (first | assumption | exact Ext.refl _ | refine Ext.alloc ?_ _ | refine Ext.drew ?_ | refine Ext.setB ?_ (by first | omega | (simp only [size_alloc, size_setB, size_drew]; omega)) _ | exact Ext.trans (by assumption) (by assumption) | refine Ext.trans ?_ (by assumption)))) (by first | exact NN.nil _ | assumption | exact NN.ext (by assumption) (by repeat (first | assumption | exact Ext.refl _ | refine Ext.alloc ?_ _ | refine Ext.drew ?_ | refine Ext.setB ?_ (by first | omega | (simp only [size_alloc, size_setB, size_drew]; omega)) _ | exact Ext.trans (by assumption) (by assumption) | refine Ext.trans ?_ (by assumption)))) (by first | assumption | omega) (by first | assumption | omega)) ?_)
  rintro _ w26_4 ⟨hE26_4, s26_4, rfl, hN26_4⟩
  have hz26_4 := hE26_4.1
  try simp only [size_alloc, size_setB, size_drew] at hz26_4
  have hs26_4 := hN26_4.z_mul
  refine WO_call Hvac.call24 (by rfl) (Ret.mono (nAdd_spec (OmB.ext hO (by repeat (first | assumption | exact Ext.refl _ | refine Ext.alloc ?_ _ | refine Ext.drew ?_ | refine Ext.setB ?_ (by first | omega | (simp only [size_alloc, size_setB, size_drew]; omega)) _ | exact Ext.trans (by assumption) (by assumption) | refine Ext.trans ?_ (by assumption)))) (by first | exact NN.nil _ | assumption | exact NN.ext (by assumption) (by repeat (first | assumption | exact Ext.refl _ | refine Ext.alloc ?_ _ | refine Ext.drew ?_ | refine Ext.setB ?_ (by first | omega | (simp only [size_alloc, size_setB, size_drew]; omega)) _ | exact Ext.trans (by assumption) (by assumption) | refine Ext.trans ?_ (by assumption)))) (by first | exact NN.nil _ | assumption | exact NN.ext (by assumption) (by repeat (first | assumption | exact Ext.refl _ | refine Ext.alloc ?_ _ | refine Ext.drew ?_ | refine Ext.setB ?_ (by first | omega | (simp only [size_alloc, size_setB, size_drew]; omega)) _ | exact Ext.trans (by assumption) (by assumption) | refine Ext.trans ?_ (by assumption)))) (by first | assumption | omega) (by first | assumption | omega)) ?_)
  rintro _ w24_5 ⟨hE24_5, s24_5, rfl, hN24_5⟩
  have hz24_5 := hE24_5.1
  try simp only [size_alloc, size_setB, size_drew] at hz24_5
  have hs24_5 := hN24_5.z_add
  refine WO_p (PS_assign_slice rfl) ?_
  refine WO_nil ?_
  refine thn_normal ?_
  refine W_ret ?_
  refine bodyQ_ret1 Hvac.results295 rfl (.slice _ _ _) rfl ?_
  exact ⟨(by repeat (first | assumption | exact Ext.refl _ | refine Ext.alloc ?_ _ | refine Ext.drew ?_ | refine Ext.setB ?_ (by first | omega | (simp only [size_alloc, size_setB, size_drew]; omega)) _ | refine Ext.trans ?_ (by assumption))), _, rfl, (by first | exact NN.nil _ | assumption | exact NN.ext (by assumption) (by repeat (first | assumption | exact Ext.refl _ | refine Ext.alloc ?_ _ | refine Ext.drew ?_ | refine Ext.setB ?_ (by first | omega | (simp only [size_alloc, size_setB, size_drew]; omega)) _ | refine Ext.trans ?_ (by assumption))))⟩

set_option maxRecDepth 10000 in
set_option maxHeartbeats 4000000 in
theorem sentGas_spec2 [Om] (w : World) (hO : OmB w) (lp : Option Addr) (ln lc l : Nat) (hl : NN w (lp, ln, lc) l) (zl : sz l ≤ 1000) (ap : Option Addr) (an acY a : Nat) (ha : NN w (ap, an, acY) a) (za : sz a ≤ 1000) : Ret Hvac.prog 200 #[.slice lp ln lc, .slice ap an acY] w fun u w' => Ext w w' ∧ ∃ s' : SV, u = .slice s'.1 s'.2.1 s'.2.2 ∧ NN w' s' (ysent l a) := by
  refine Ret_of_W Hvac.func200 rfl rfl ?_
  refine W_seq ?_
  refine W_region rfl ?_
  refine WO_p (PS_assign_slice rfl) ?_
  refine WO_nil ?_
  refine thn_normal ?_
  refine W_seq ?_
  refine W_region rfl ?_
  refine WO_p (PS_move_slice rfl) ?_
  refine WO_p (PS_move_slice rfl) ?_
  refine WO_p (PS_move_slice rfl) ?_
  refine WO_call Hvac.call162 (by rfl) (Ret.mono (divided_spec _ (OmB.ext hO (by repeat (first | assumption | exact Ext.refl _ | refine Ext.alloc ?_ _ | refine Ext.drew ?_ | refine Ext.setB ?_ (by first | omega | (simp only [size_alloc, size_setB, size_drew]; omega)) _ | exact Ext.trans (by assumption) (by assumption) | refine Ext.trans ?_ (by assumption)))) _ _ _ _ (by first | exact NN.nil _ | assumption | exact NN.ext (by assumption) (by repeat (first | assumption | exact Ext.refl _ | refine Ext.alloc ?_ _ | refine Ext.drew ?_ | refine Ext.setB ?_ (by first | omega | (simp only [size_alloc, size_setB, size_drew]; omega)) _ | exact Ext.trans (by assumption) (by assumption) | refine Ext.trans ?_ (by assumption)))) (by first | assumption | omega) _ ⟨by omega, by omega⟩) ?_)
  rintro _ w162_0 ⟨hE162_0, s162_0, rfl, hN162_0⟩
  have hz162_0 := hE162_0.1
  try simp only [size_alloc, size_setB, size_drew] at hz162_0
  try simp only [Int.toNat_natCast, toNat_lit] at hN162_0
  have hs162_0 := hN162_0.z_div
  refine WO_call Hvac.call20 (by rfl) (Ret.mono (less_spec _ (OmB.ext hO (by repeat (first | assumption | exact Ext.refl _ | refine Ext.alloc ?_ _ | refine Ext.drew ?_ | refine Ext.setB ?_ (by first | omega | (simp only [size_alloc, size_setB, size_drew]; omega)) _ | exact Ext.trans (by assumption) (by assumption) | refine Ext.trans ?_ (by assumption)))) _ _ _ _ (by first | exact NN.nil _ | assumption | exact NN.ext (by assumption) (by repeat (first | assumption | exact Ext.refl _ | refine Ext.alloc ?_ _ | refine Ext.drew ?_ | refine Ext.setB ?_ (by first | omega | (simp only [size_alloc, size_setB, size_drew]; omega)) _ | exact Ext.trans (by assumption) (by assumption) | refine Ext.trans ?_ (by assumption)))) (by first | assumption | omega) _ _ _ _ (by first | exact NN.nil _ | assumption | exact NN.ext (by assumption) (by repeat (first | assumption | exact Ext.refl _ | refine Ext.alloc ?_ _ | refine Ext.drew ?_ | refine Ext.setB ?_ (by first | omega | (simp only [size_alloc, size_setB, size_drew]; omega)) _ | exact Ext.trans (by assumption) (by assumption) | refine Ext.trans ?_ (by assumption)))) (by first | assumption | omega)) ?_)
  rintro _ w20_1 ⟨hE20_1, s20_1, rfl, hN20_1⟩
  have hz20_1 := hE20_1.1
  try simp only [size_alloc, size_setB, size_drew] at hz20_1
  have hs20_1 := hN20_1.z_sub
  refine WO_call Hvac.call84 (by rfl) (Ret.mono (minNat_spec _ (OmB.ext hO (by repeat (first | assumption | exact Ext.refl _ | refine Ext.alloc ?_ _ | refine Ext.drew ?_ | refine Ext.setB ?_ (by first | omega | (simp only [size_alloc, size_setB, size_drew]; omega)) _ | exact Ext.trans (by assumption) (by assumption) | refine Ext.trans ?_ (by assumption)))) _ _ _ _ (by first | exact NN.nil _ | assumption | exact NN.ext (by assumption) (by repeat (first | assumption | exact Ext.refl _ | refine Ext.alloc ?_ _ | refine Ext.drew ?_ | refine Ext.setB ?_ (by first | omega | (simp only [size_alloc, size_setB, size_drew]; omega)) _ | exact Ext.trans (by assumption) (by assumption) | refine Ext.trans ?_ (by assumption)))) (by first | assumption | omega) _ _ _ _ (by first | exact NN.nil _ | assumption | exact NN.ext (by assumption) (by repeat (first | assumption | exact Ext.refl _ | refine Ext.alloc ?_ _ | refine Ext.drew ?_ | refine Ext.setB ?_ (by first | omega | (simp only [size_alloc, size_setB, size_drew]; omega)) _ | exact Ext.trans (by assumption) (by assumption) | refine Ext.trans ?_ (by assumption)))) (by first | assumption | omega)) ?_)
  rintro _ w84_2 ⟨hE84_2, s84_2, rfl, hN84_2⟩
  have hz84_2 := hE84_2.1
  try simp only [size_alloc, size_setB, size_drew] at hz84_2
  have hs84_2 := hN84_2.z_min
  refine WO_p (PS_assign_slice rfl) ?_
  refine WO_nil ?_
  refine thn_normal ?_
  refine W_ret ?_
  refine bodyQ_ret1 Hvac.results200 rfl (.slice _ _ _) rfl ?_
  exact ⟨(by repeat (first | assumption | exact Ext.refl _ | refine Ext.alloc ?_ _ | refine Ext.drew ?_ | refine Ext.setB ?_ (by first | omega | (simp only [size_alloc, size_setB, size_drew]; omega)) _ | refine Ext.trans ?_ (by assumption))), _, rfl, (by first | exact NN.nil _ | assumption | exact NN.ext (by assumption) (by repeat (first | assumption | exact Ext.refl _ | refine Ext.alloc ?_ _ | refine Ext.drew ?_ | refine Ext.setB ?_ (by first | omega | (simp only [size_alloc, size_setB, size_drew]; omega)) _ | refine Ext.trans ?_ (by assumption))))⟩

end Go.Proofs.YgvacwGreat
