import Derived.Test.YgvacwGreatQa
import Derived.Test.YgvacwGreatFwV
namespace Go.Proofs.YgvacwGreat
set_option linter.unusedSimpArgs false
set_option linter.unusedVariables false
def yneg (n : Nat) : Nat := (115792089237316195423570985008687907853269984665640564039457584007913129639936 - n) % 115792089237316195423570985008687907853269984665640564039457584007913129639936
def ysgn (n : Nat) (b : Bool) : Nat := if b then yneg n else n
def yisn (n : Nat) : Bool := Nat.testBit n 255
def ymag (n : Nat) : Nat := ysgn n (yisn n)
def ysb (a b : Nat) : Bool := if yisn a ≠ yisn b then yisn a else decide (a < b)
theorem dv_takemod (n k : Nat) : dv ((dg n).take k) = n % 256 ^ k := by
  rcases Nat.lt_or_ge (sz n) k with h | h
  · rw [List.take_of_length_le (by rw [dg_len]; omega), dv_dg, Nat.mod_eq_of_lt (lt_of_sz (Nat.le_of_lt h))]
  · have e := dv_take (dg n) k (by rw [dg_len]; exact h)
    rw [dv_dg] at e
    have l := dv_lt (L := (dg n).take k) fun x hx => dg_by n x (List.mem_of_mem_take hx)
    rw [List.length_take, dg_len, Nat.min_eq_left h] at l
    conv => rhs; rw [e]
    rw [Nat.add_mul_mod_self_left, Nat.mod_eq_of_lt l]
theorem ab_take {w : World} {p : Option Addr} {n c k : Nat} {L : List Int} (h : AB w (p, n, c) L) (hk : k ≤ n) : AB w (p, k, c) (L.take k) := by
  have hl := h.len
  have hc := h.cap
  dsimp only at hl hc
  refine ⟨by rw [List.length_take]; show _ = k; omega, by show k ≤ c; omega, fun x hx => h.by_ x (List.mem_of_mem_take hx), fun h0 => ?_⟩
  dsimp only at h0
  obtain ⟨b, o, r, T, fz, h1, h2, h3, h4⟩ := h.row (by show 0 < n; omega)
  dsimp only at h1 h3 h4
  exact ⟨b, o, r, T, fz, h1, h2, by show o + k ≤ _; omega, xt_take h4 hl hk⟩
theorem NN.z_m256 [Om] {w : World} {s : SV} {a : Nat} (h : NN w s (a % 115792089237316195423570985008687907853269984665640564039457584007913129639936)) : sz (a % 115792089237316195423570985008687907853269984665640564039457584007913129639936) ≤ 32 := sz256 (Nat.mod_lt _ (by decide))
theorem yneg_lt (n : Nat) : yneg n < 115792089237316195423570985008687907853269984665640564039457584007913129639936 := Nat.mod_lt _ (by decide)
theorem sz_yneg (n : Nat) : sz (yneg n) ≤ 32 := sz256 (yneg_lt n)
theorem sz_ynegN [Om] {w : World} {s : SV} {a : Nat} (h : NN w s (yneg a)) : sz (yneg a) ≤ 32 := sz_yneg a
theorem sz_ysgn (n : Nat) (b : Bool) : sz (ysgn n b) ≤ max (sz n) 32 := by
  unfold ysgn; split
  · have := sz_yneg n; omega
  · omega
theorem PS_slH {P : Program} {ρ : Nat → Value} {t e : TypeId} {s n cp : Nat} {kh : IntKind} {h : Int} {x xh : Operand} {a : Option Addr} (hU : ∀ w, (underlying t).run P w = .ok (.slice e) w) (hS : ∀ w, (Go.sizeOf e).run P w = .ok s w) (hx : ev ρ x = .slice a n cp) (hh : ev ρ xh = .int kh h) (hh0 : 0 ≤ h) (hh1 : h ≤ cp) :
    PS P (.slice t x none (some xh) none) ρ (.slice a h.toNat cp) := by
  have := PS_slG_h (P := P) hU hS hx hh hh0 hh1
  have e : slp' a 0 cp s = a := by
    unfold slp'
    split
    · rfl
    · cases a <;> simp [Addr.add]
  rwa [e] at this
theorem dg_one : dg 1 = [1] := by rw [dg_pos (by decide)]; rw [show 1 / 256 = 0 from rfl, dg_zero]; rfl
theorem p256 : 2 ^ 256 = 115792089237316195423570985008687907853269984665640564039457584007913129639936 := by decide

set_option maxRecDepth 10000 in
set_option maxHeartbeats 4000000 in
theorem wrapped_spec [Om] (w : World) (hO : OmB w) (ap : Option Addr) (an acY a : Nat) (ha : NN w (ap, an, acY) a) (za : sz a ≤ 1000) : Ret Hvac.prog 301 #[.slice ap an acY] w fun u w' => Ext w w' ∧ ∃ s' : SV, u = .slice s'.1 s'.2.1 s'.2.2 ∧ NN w' s' (a % 115792089237316195423570985008687907853269984665640564039457584007913129639936) := by
  have han := ha.szl
  have hac := ha.cap
  dsimp only at hac
  refine Ret_of_W Hvac.func301 rfl rfl ?_
  refine W_seq ?_
  refine W_region rfl ?_
  refine WO_p (PS_assign_slice rfl) ?_
  refine WO_nil ?_
  refine thn_normal ?_
  refine W_seq ?_
  refine W_region rfl ?_
  refine WO_p (PS_move_slice rfl) ?_
  refine WO_p (PS_move_slice rfl) ?_
  refine WO_p (PS_lenS Hvac.runUnderlying92 rfl) ?_
  refine WO_p (PS_min rfl rfl) ?_
  refine WO_p (PS_slH Hvac.runUnderlying92 Hvac.sizeOf5 rfl rfl (by split <;> omega) (by split <;> omega)) ?_
  rw [show (if (32 : Int) < (an : Int) then 32 else (an : Int)).toNat = min (sz a) 32 by split <;> omega]
  refine WO_call Hvac.call79 (by rfl) (Ret.mono (normX_spec (ap, min (sz a) 32, acY) ((dg a).take (min (sz a) 32)) _ (OmB.ext hO (by repeat (first | assumption | exact Ext.refl _ | refine Ext.alloc ?_ _ | refine Ext.drew ?_ | refine Ext.setB ?_ (by first | omega | (simp only [size_alloc, size_setB, size_drew]; omega)) _ | exact Ext.trans (by assumption) (by assumption) | refine Ext.trans ?_ (by assumption)))) (ab_take (n := an) (PB.ab (PB.ext ha (by repeat (first | assumption | exact Ext.refl _ | refine Ext.alloc ?_ _ | refine Ext.drew ?_ | refine Ext.setB ?_ (by first | omega | (simp only [size_alloc, size_setB, size_drew]; omega)) _ | exact Ext.trans (by assumption) (by assumption) | refine Ext.trans ?_ (by assumption))))) (by rw [han]; omega)) (by show min (sz a) 32 ≤ _; omega)) ?_)
  rintro _ w9 ⟨hE9, s9, rfl, hN9⟩
  have hz9 := hE9.1
  try simp only [size_alloc, size_setB, size_drew] at hz9
  refine WO_p (PS_assign_slice rfl) ?_
  refine WO_nil ?_
  refine thn_normal ?_
  refine W_ret ?_
  refine bodyQ_ret1 Hvac.results301 rfl (.slice _ _ _) rfl ?_
  have e : dv ((dg a).take (min (sz a) 32)) = a % 115792089237316195423570985008687907853269984665640564039457584007913129639936 := by
    rw [dv_takemod]
    rcases Nat.le_total (sz a) 32 with h | h
    · rw [Nat.min_eq_left h, Nat.mod_eq_of_lt (lt_sz a), Nat.mod_eq_of_lt (sz_lt256.2 h)]
    · rw [Nat.min_eq_right h]
  rw [e] at hN9
  exact ⟨(by repeat (first | assumption | exact Ext.refl _ | refine Ext.alloc ?_ _ | refine Ext.drew ?_ | refine Ext.setB ?_ (by first | omega | (simp only [size_alloc, size_setB, size_drew]; omega)) _ | refine Ext.trans ?_ (by assumption))), _, rfl, hN9⟩

set_option maxRecDepth 10000 in
set_option maxHeartbeats 4000000 in
theorem negated_spec [Om] (w : World) (hO : OmB w) (ap : Option Addr) (an acY a : Nat) (ha : NN w (ap, an, acY) a) (za : sz a ≤ 1000) : Ret Hvac.prog 302 #[.slice ap an acY] w fun u w' => Ext w w' ∧ ∃ s' : SV, u = .slice s'.1 s'.2.1 s'.2.2 ∧ NN w' s' (yneg a) := by
  refine Ret_of_W Hvac.func302 rfl rfl ?_
  refine W_seq ?_
  refine W_region rfl ?_
  refine WO_p (PS_assign_slice rfl) ?_
  refine WO_nil ?_
  refine thn_normal ?_
  refine W_seq ?_
  refine W_region rfl ?_
  refine WO_call Hvac.call355 (by rfl) (Ret.mono (nPow2_spec (k := 256) (OmB.ext hO (by repeat (first | assumption | exact Ext.refl _ | refine Ext.alloc ?_ _ | refine Ext.drew ?_ | refine Ext.setB ?_ (by first | omega | (simp only [size_alloc, size_setB, size_drew]; omega)) _ | exact Ext.trans (by assumption) (by assumption) | refine Ext.trans ?_ (by assumption)))) (by omega)) ?_)
  rintro _ w9 ⟨hE9, s9, rfl, hN9, hs9⟩
  have hz9 := hE9.1
  try simp only [size_alloc, size_setB, size_drew] at hz9
  rw [p256] at hN9 hs9
  refine WO_p (PS_move_slice rfl) ?_
  refine WO_call Hvac.call82 (by rfl) (Ret.mono (nSub_spec (OmB.ext hO (by repeat (first | assumption | exact Ext.refl _ | refine Ext.alloc ?_ _ | refine Ext.drew ?_ | refine Ext.setB ?_ (by first | omega | (simp only [size_alloc, size_setB, size_drew]; omega)) _ | exact Ext.trans (by assumption) (by assumption) | refine Ext.trans ?_ (by assumption)))) (by first | exact NN.nil _ | assumption | exact NN.ext (by assumption) (by repeat (first | assumption | exact Ext.refl _ | refine Ext.alloc ?_ _ | refine Ext.drew ?_ | refine Ext.setB ?_ (by first | omega | (simp only [size_alloc, size_setB, size_drew]; omega)) _ | exact Ext.trans (by assumption) (by assumption) | refine Ext.trans ?_ (by assumption)))) (by first | exact NN.nil _ | assumption | exact NN.ext (by assumption) (by repeat (first | assumption | exact Ext.refl _ | refine Ext.alloc ?_ _ | refine Ext.drew ?_ | refine Ext.setB ?_ (by first | omega | (simp only [size_alloc, size_setB, size_drew]; omega)) _ | exact Ext.trans (by assumption) (by assumption) | refine Ext.trans ?_ (by assumption)))) (by first | assumption | omega | (rw [sz_zero]; omega)) (by first | assumption | omega | (rw [sz_zero]; omega))) ?_)
  rintro _ w82_1 ⟨hE82_1, s82_1, rfl, hN82_1⟩
  have hz82_1 := hE82_1.1
  try simp only [size_alloc, size_setB, size_drew] at hz82_1
  have hs82_1 := hN82_1.z_sub
  refine WO_p (PS_move_tuple rfl) ?_
  refine WO_p (PS_extract_slice rfl rfl) ?_
  refine WO_p (PS_extract_bool rfl rfl) ?_
  refine WO_p (PS_assign_slice rfl) ?_
  refine WO_p (PS_assign_bool rfl) ?_
  refine WO_nil ?_
  refine thn_normal ?_
  refine W_seq ?_
  refine W_region rfl ?_
  refine WO_p (PS_move_slice rfl) ?_
  refine WO_call Hvac.call301 (by rfl) (Ret.mono (wrapped_spec _ (OmB.ext hO (by repeat (first | assumption | exact Ext.refl _ | refine Ext.alloc ?_ _ | refine Ext.drew ?_ | refine Ext.setB ?_ (by first | omega | (simp only [size_alloc, size_setB, size_drew]; omega)) _ | exact Ext.trans (by assumption) (by assumption) | refine Ext.trans ?_ (by assumption)))) _ _ _ _ (by first | exact NN.nil _ | assumption | exact NN.ext (by assumption) (by repeat (first | assumption | exact Ext.refl _ | refine Ext.alloc ?_ _ | refine Ext.drew ?_ | refine Ext.setB ?_ (by first | omega | (simp only [size_alloc, size_setB, size_drew]; omega)) _ | exact Ext.trans (by assumption) (by assumption) | refine Ext.trans ?_ (by assumption)))) (by first | assumption | omega | (rw [sz_zero]; omega))) ?_)
  rintro _ w301_3 ⟨hE301_3, s301_3, rfl, hN301_3⟩
  have hz301_3 := hE301_3.1
  try simp only [size_alloc, size_setB, size_drew] at hz301_3
  have hs301_3 := hN301_3.z_m256
  refine WO_p (PS_assign_slice rfl) ?_
  refine WO_nil ?_
  refine thn_normal ?_
  refine W_ret ?_
  refine bodyQ_ret1 Hvac.results302 rfl (.slice _ _ _) rfl ?_
  exact ⟨(by repeat (first | assumption | exact Ext.refl _ | refine Ext.alloc ?_ _ | refine Ext.drew ?_ | refine Ext.setB ?_ (by first | omega | (simp only [size_alloc, size_setB, size_drew]; omega)) _ | refine Ext.trans ?_ (by assumption))), _, rfl, (by first | exact NN.nil _ | assumption | exact NN.ext (by assumption) (by repeat (first | assumption | exact Ext.refl _ | refine Ext.alloc ?_ _ | refine Ext.drew ?_ | refine Ext.setB ?_ (by first | omega | (simp only [size_alloc, size_setB, size_drew]; omega)) _ | refine Ext.trans ?_ (by assumption))))⟩

set_option maxRecDepth 10000 in
set_option maxHeartbeats 4000000 in
theorem isNegative_spec [Om] (w : World) (hO : OmB w) (ap : Option Addr) (an acY a : Nat) (ha : NN w (ap, an, acY) a) (za : sz a ≤ 1000) : Ret Hvac.prog 305 #[.slice ap an acY] w fun u w' => Ext w w' ∧ u = .bool (yisn a) := by
  refine Ret_of_W Hvac.func305 rfl rfl ?_
  refine W_seq ?_
  refine W_region rfl ?_
  refine WO_p (PS_assign_bool rfl) ?_
  refine WO_nil ?_
  refine thn_normal ?_
  refine W_seq ?_
  refine W_region rfl ?_
  refine WO_p (PS_move_slice rfl) ?_
  refine WO_call Hvac.call294 (by rfl) (Ret.mono (nBit_spec (i := 255) (by first | exact NN.nil _ | assumption | exact NN.ext (by assumption) (by repeat (first | assumption | exact Ext.refl _ | refine Ext.alloc ?_ _ | refine Ext.drew ?_ | refine Ext.setB ?_ (by first | omega | (simp only [size_alloc, size_setB, size_drew]; omega)) _ | exact Ext.trans (by assumption) (by assumption) | refine Ext.trans ?_ (by assumption)))) (by first | assumption | omega | (rw [sz_zero]; omega)) (by omega)) ?_)
  rintro _ w294_0 ⟨hE294_0, rfl⟩
  have hz294_0 := hE294_0.1
  try simp only [size_alloc, size_setB, size_drew] at hz294_0
  refine WO_p (PS_assign_bool rfl) ?_
  refine WO_nil ?_
  refine thn_normal ?_
  refine W_ret ?_
  refine bodyQ_ret1 Hvac.results305 rfl (.bool _) rfl ?_
  exact ⟨(by repeat (first | assumption | exact Ext.refl _ | refine Ext.alloc ?_ _ | refine Ext.drew ?_ | refine Ext.setB ?_ (by first | omega | (simp only [size_alloc, size_setB, size_drew]; omega)) _ | refine Ext.trans ?_ (by assumption))), rfl⟩

set_option maxRecDepth 10000 in
set_option maxHeartbeats 4000000 in
theorem withSign_spec [Om] (w : World) (hO : OmB w) (ap : Option Addr) (an acY a : Nat) (ha : NN w (ap, an, acY) a) (za : sz a ≤ 1000) (q : Bool) : Ret Hvac.prog 304 #[.slice ap an acY, .bool q] w fun u w' => Ext w w' ∧ ∃ s' : SV, u = .slice s'.1 s'.2.1 s'.2.2 ∧ NN w' s' (ysgn a q) := by
  refine Ret_of_W Hvac.func304 rfl rfl ?_
  refine W_seq ?_
  refine W_region rfl ?_
  refine WO_p (PS_assign_slice rfl) ?_
  refine WO_nil ?_
  refine thn_normal ?_
  refine W_seq ?_
  refine W_seq ?_
  refine W_region rfl ?_
  refine WO_p (PS_move_bool rfl) ?_
  refine WO_nil ?_
  refine thn_normal ?_
  refine W_if rfl (fun hb2 => ?_) (fun hb2 => ?_)
  · have hb2p := hb2.h; try simp only [al_ete, al_dfn, Bool.not_eq_true', Bool.not_eq_false', al_ne, Bool.not_not, al_nn] at hb2p
    unfold ysgn
    rw [if_pos hb2p]
    refine W_seq ?_
    refine W_region rfl ?_
    refine WO_p (PS_move_slice rfl) ?_
    refine WO_call Hvac.call302 (by rfl) (Ret.mono (negated_spec _ (OmB.ext hO (by repeat (first | assumption | exact Ext.refl _ | refine Ext.alloc ?_ _ | refine Ext.drew ?_ | refine Ext.setB ?_ (by first | omega | (simp only [size_alloc, size_setB, size_drew]; omega)) _ | exact Ext.trans (by assumption) (by assumption) | refine Ext.trans ?_ (by assumption)))) _ _ _ _ (by first | exact NN.nil _ | assumption | exact NN.ext (by assumption) (by repeat (first | assumption | exact Ext.refl _ | refine Ext.alloc ?_ _ | refine Ext.drew ?_ | refine Ext.setB ?_ (by first | omega | (simp only [size_alloc, size_setB, size_drew]; omega)) _ | exact Ext.trans (by assumption) (by assumption) | refine Ext.trans ?_ (by assumption)))) (by first | assumption | omega | (rw [sz_zero]; omega))) ?_)
    rintro _ w302_2 ⟨hE302_2, s302_2, rfl, hN302_2⟩
    have hz302_2 := hE302_2.1
    try simp only [size_alloc, size_setB, size_drew] at hz302_2
    have hs302_2 := sz_ynegN hN302_2
    refine WO_p (PS_assign_slice rfl) ?_
    refine WO_nil ?_
    refine thn_normal ?_
    refine W_ret ?_
    refine thn_ret ?_
    refine bodyQ_ret1 Hvac.results304 rfl (.slice _ _ _) rfl ?_
    exact ⟨(by repeat (first | assumption | exact Ext.refl _ | refine Ext.alloc ?_ _ | refine Ext.drew ?_ | refine Ext.setB ?_ (by first | omega | (simp only [size_alloc, size_setB, size_drew]; omega)) _ | refine Ext.trans ?_ (by assumption))), _, rfl, (by first | exact NN.nil _ | assumption | exact NN.ext (by assumption) (by repeat (first | assumption | exact Ext.refl _ | refine Ext.alloc ?_ _ | refine Ext.drew ?_ | refine Ext.setB ?_ (by first | omega | (simp only [size_alloc, size_setB, size_drew]; omega)) _ | refine Ext.trans ?_ (by assumption))))⟩
  · have hb2p := hb2.h; try simp only [al_ete, al_dfn, Bool.not_eq_true', Bool.not_eq_false', al_ne, Bool.not_not, al_nn] at hb2p
    unfold ysgn
    rw [if_neg (by rw [hb2p]; decide)]
    refine W_skip ?_
    refine thn_normal ?_
    refine W_seq ?_
    refine W_region rfl ?_
    refine WO_p (PS_move_slice rfl) ?_
    refine WO_call Hvac.call79 (by rfl) (Ret.mono (nNorm_spec (OmB.ext hO (by repeat (first | assumption | exact Ext.refl _ | refine Ext.alloc ?_ _ | refine Ext.drew ?_ | refine Ext.setB ?_ (by first | omega | (simp only [size_alloc, size_setB, size_drew]; omega)) _ | exact Ext.trans (by assumption) (by assumption) | refine Ext.trans ?_ (by assumption)))) (by first | exact NN.nil _ | assumption | exact NN.ext (by assumption) (by repeat (first | assumption | exact Ext.refl _ | refine Ext.alloc ?_ _ | refine Ext.drew ?_ | refine Ext.setB ?_ (by first | omega | (simp only [size_alloc, size_setB, size_drew]; omega)) _ | exact Ext.trans (by assumption) (by assumption) | refine Ext.trans ?_ (by assumption)))) (by first | assumption | omega | (rw [sz_zero]; omega))) ?_)
    rintro _ w79_3 ⟨hE79_3, s79_3, rfl, hN79_3⟩
    have hz79_3 := hE79_3.1
    try simp only [size_alloc, size_setB, size_drew] at hz79_3
    refine WO_p (PS_assign_slice rfl) ?_
    refine WO_nil ?_
    refine thn_normal ?_
    refine W_ret ?_
    refine bodyQ_ret1 Hvac.results304 rfl (.slice _ _ _) rfl ?_
    exact ⟨(by repeat (first | assumption | exact Ext.refl _ | refine Ext.alloc ?_ _ | refine Ext.drew ?_ | refine Ext.setB ?_ (by first | omega | (simp only [size_alloc, size_setB, size_drew]; omega)) _ | refine Ext.trans ?_ (by assumption))), _, rfl, (by first | exact NN.nil _ | assumption | exact NN.ext (by assumption) (by repeat (first | assumption | exact Ext.refl _ | refine Ext.alloc ?_ _ | refine Ext.drew ?_ | refine Ext.setB ?_ (by first | omega | (simp only [size_alloc, size_setB, size_drew]; omega)) _ | refine Ext.trans ?_ (by assumption))))⟩

theorem sz_ysgnN [Om] {w : World} {s : SV} {a : Nat} {b : Bool} (h : NN w s (ysgn a b)) : sz (ysgn a b) ≤ max (sz a) 32 := sz_ysgn a b
theorem sz_ymagN [Om] {w : World} {s : SV} {a : Nat} (h : NN w s (ymag a)) : sz (ymag a) ≤ max (sz a) 32 := sz_ysgn a _
set_option maxRecDepth 10000 in
set_option maxHeartbeats 4000000 in
theorem magnitude_spec [Om] (w : World) (hO : OmB w) (ap : Option Addr) (an acY a : Nat) (ha : NN w (ap, an, acY) a) (za : sz a ≤ 1000) : Ret Hvac.prog 303 #[.slice ap an acY] w fun u w' => Ext w w' ∧ ∃ s' : SV, u = .slice s'.1 s'.2.1 s'.2.2 ∧ NN w' s' (ymag a) := by
  refine Ret_of_W Hvac.func303 rfl rfl ?_
  refine W_seq ?_
  refine W_region rfl ?_
  refine WO_p (PS_assign_slice rfl) ?_
  refine WO_nil ?_
  refine thn_normal ?_
  refine W_seq ?_
  refine W_region rfl ?_
  refine WO_p (PS_move_slice rfl) ?_
  refine WO_p (PS_move_slice rfl) ?_
  refine WO_call Hvac.call305 (by rfl) (Ret.mono (isNegative_spec _ (OmB.ext hO (by repeat (first | assumption | exact Ext.refl _ | refine Ext.alloc ?_ _ | refine Ext.drew ?_ | refine Ext.setB ?_ (by first | omega | (simp only [size_alloc, size_setB, size_drew]; omega)) _ | exact Ext.trans (by assumption) (by assumption) | refine Ext.trans ?_ (by assumption)))) _ _ _ _ (by first | exact NN.nil _ | assumption | exact NN.ext (by assumption) (by repeat (first | assumption | exact Ext.refl _ | refine Ext.alloc ?_ _ | refine Ext.drew ?_ | refine Ext.setB ?_ (by first | omega | (simp only [size_alloc, size_setB, size_drew]; omega)) _ | exact Ext.trans (by assumption) (by assumption) | refine Ext.trans ?_ (by assumption)))) (by first | assumption | omega | (rw [sz_zero]; omega))) ?_)
  rintro _ w305_0 ⟨hE305_0, rfl⟩
  have hz305_0 := hE305_0.1
  try simp only [size_alloc, size_setB, size_drew] at hz305_0
  refine WO_call Hvac.call304 (by rfl) (Ret.mono (withSign_spec _ (OmB.ext hO (by repeat (first | assumption | exact Ext.refl _ | refine Ext.alloc ?_ _ | refine Ext.drew ?_ | refine Ext.setB ?_ (by first | omega | (simp only [size_alloc, size_setB, size_drew]; omega)) _ | exact Ext.trans (by assumption) (by assumption) | refine Ext.trans ?_ (by assumption)))) _ _ _ _ (by first | exact NN.nil _ | assumption | exact NN.ext (by assumption) (by repeat (first | assumption | exact Ext.refl _ | refine Ext.alloc ?_ _ | refine Ext.drew ?_ | refine Ext.setB ?_ (by first | omega | (simp only [size_alloc, size_setB, size_drew]; omega)) _ | exact Ext.trans (by assumption) (by assumption) | refine Ext.trans ?_ (by assumption)))) (by first | assumption | omega | (rw [sz_zero]; omega)) _) ?_)
  rintro _ w304_1 ⟨hE304_1, s304_1, rfl, hN304_1⟩
  have hz304_1 := hE304_1.1
  try simp only [size_alloc, size_setB, size_drew] at hz304_1
  have hs304_1 := sz_ysgnN hN304_1
  refine WO_p (PS_assign_slice rfl) ?_
  refine WO_nil ?_
  refine thn_normal ?_
  refine W_ret ?_
  refine bodyQ_ret1 Hvac.results303 rfl (.slice _ _ _) rfl ?_
  exact ⟨(by repeat (first | assumption | exact Ext.refl _ | refine Ext.alloc ?_ _ | refine Ext.drew ?_ | refine Ext.setB ?_ (by first | omega | (simp only [size_alloc, size_setB, size_drew]; omega)) _ | refine Ext.trans ?_ (by assumption))), _, rfl, (by first | exact NN.nil _ | assumption | exact NN.ext (by assumption) (by repeat (first | assumption | exact Ext.refl _ | refine Ext.alloc ?_ _ | refine Ext.drew ?_ | refine Ext.setB ?_ (by first | omega | (simp only [size_alloc, size_setB, size_drew]; omega)) _ | refine Ext.trans ?_ (by assumption))))⟩

set_option maxRecDepth 10000 in
set_option maxHeartbeats 4000000 in
theorem signedBelow_spec [Om] (w : World) (hO : OmB w) (ap : Option Addr) (an acY a : Nat) (ha : NN w (ap, an, acY) a) (za : sz a ≤ 1000) (bp : Option Addr) (bn bc b : Nat) (hb : NN w (bp, bn, bc) b) (zb : sz b ≤ 1000) : Ret Hvac.prog 309 #[.slice ap an acY, .slice bp bn bc] w fun u w' => Ext w w' ∧ u = .bool (ysb a b) := by
  refine Ret_of_W Hvac.func309 rfl rfl ?_
  refine W_seq ?_
  refine W_region rfl ?_
  refine WO_p (PS_assign_bool rfl) ?_
  refine WO_nil ?_
  refine thn_normal ?_
  refine W_seq ?_
  refine W_seq ?_
  refine W_region rfl ?_
  refine WO_p (PS_move_slice rfl) ?_
  refine WO_call Hvac.call305 (by rfl) (Ret.mono (isNegative_spec _ (OmB.ext hO (by repeat (first | assumption | exact Ext.refl _ | refine Ext.alloc ?_ _ | refine Ext.drew ?_ | refine Ext.setB ?_ (by first | omega | (simp only [size_alloc, size_setB, size_drew]; omega)) _ | exact Ext.trans (by assumption) (by assumption) | refine Ext.trans ?_ (by assumption)))) _ _ _ _ (by first | exact NN.nil _ | assumption | exact NN.ext (by assumption) (by repeat (first | assumption | exact Ext.refl _ | refine Ext.alloc ?_ _ | refine Ext.drew ?_ | refine Ext.setB ?_ (by first | omega | (simp only [size_alloc, size_setB, size_drew]; omega)) _ | exact Ext.trans (by assumption) (by assumption) | refine Ext.trans ?_ (by assumption)))) (by first | assumption | omega | (rw [sz_zero]; omega))) ?_)
  rintro _ w305_0 ⟨hE305_0, rfl⟩
  have hz305_0 := hE305_0.1
  try simp only [size_alloc, size_setB, size_drew] at hz305_0
  refine WO_p (PS_move_slice rfl) ?_
  refine WO_call Hvac.call305 (by rfl) (Ret.mono (isNegative_spec _ (OmB.ext hO (by repeat (first | assumption | exact Ext.refl _ | refine Ext.alloc ?_ _ | refine Ext.drew ?_ | refine Ext.setB ?_ (by first | omega | (simp only [size_alloc, size_setB, size_drew]; omega)) _ | exact Ext.trans (by assumption) (by assumption) | refine Ext.trans ?_ (by assumption)))) _ _ _ _ (by first | exact NN.nil _ | assumption | exact NN.ext (by assumption) (by repeat (first | assumption | exact Ext.refl _ | refine Ext.alloc ?_ _ | refine Ext.drew ?_ | refine Ext.setB ?_ (by first | omega | (simp only [size_alloc, size_setB, size_drew]; omega)) _ | exact Ext.trans (by assumption) (by assumption) | refine Ext.trans ?_ (by assumption)))) (by first | assumption | omega | (rw [sz_zero]; omega))) ?_)
  rintro _ w305_1 ⟨hE305_1, rfl⟩
  have hz305_1 := hE305_1.1
  try simp only [size_alloc, size_setB, size_drew] at hz305_1
  refine WO_p (PS_neqbool Hvac.underlying4 rfl rfl) ?_
  refine WO_nil ?_
  refine thn_normal ?_
  refine W_if rfl (fun hb4 => ?_) (fun hb4 => ?_)
  · have hb4p := hb4.h; try simp only [al_ete, al_dfn, Bool.not_eq_true', Bool.not_eq_false', al_ne, Bool.not_not, al_nn] at hb4p
    have hne : yisn a ≠ yisn b := by simpa using hb4p
    refine W_seq ?_
    refine W_region rfl ?_
    refine WO_p (PS_move_slice rfl) ?_
    refine WO_call Hvac.call305 (by rfl) (Ret.mono (isNegative_spec _ (OmB.ext hO (by repeat (first | assumption | exact Ext.refl _ | refine Ext.alloc ?_ _ | refine Ext.drew ?_ | refine Ext.setB ?_ (by first | omega | (simp only [size_alloc, size_setB, size_drew]; omega)) _ | exact Ext.trans (by assumption) (by assumption) | refine Ext.trans ?_ (by assumption)))) _ _ _ _ (by first | exact NN.nil _ | assumption | exact NN.ext (by assumption) (by repeat (first | assumption | exact Ext.refl _ | refine Ext.alloc ?_ _ | refine Ext.drew ?_ | refine Ext.setB ?_ (by first | omega | (simp only [size_alloc, size_setB, size_drew]; omega)) _ | exact Ext.trans (by assumption) (by assumption) | refine Ext.trans ?_ (by assumption)))) (by first | assumption | omega | (rw [sz_zero]; omega))) ?_)
    rintro _ w305_4 ⟨hE305_4, rfl⟩
    have hz305_4 := hE305_4.1
    try simp only [size_alloc, size_setB, size_drew] at hz305_4
    refine WO_p (PS_assign_bool rfl) ?_
    refine WO_nil ?_
    refine thn_normal ?_
    refine W_ret ?_
    refine thn_ret ?_
    refine bodyQ_ret1 Hvac.results309 rfl (.bool _) rfl ?_
    first
    | (refine ⟨(by repeat (first | assumption | exact Ext.refl _ | refine Ext.alloc ?_ _ | refine Ext.drew ?_ | refine Ext.setB ?_ (by first | omega | (simp only [size_alloc, size_setB, size_drew]; omega)) _ | refine Ext.trans ?_ (by assumption))), ?_⟩; unfold ysb; rw [if_pos hne]; done)
    | (refine ⟨(by repeat (first | assumption | exact Ext.refl _ | refine Ext.alloc ?_ _ | refine Ext.drew ?_ | refine Ext.setB ?_ (by first | omega | (simp only [size_alloc, size_setB, size_drew]; omega)) _ | refine Ext.trans ?_ (by assumption))), ?_⟩; unfold ysb; rw [if_neg hne]; exact congrArg Value.bool (al_dd.2 cmpI_lt))
  · have hb4p := hb4.h; try simp only [al_ete, al_dfn, Bool.not_eq_true', Bool.not_eq_false', al_ne, Bool.not_not, al_nn] at hb4p
    have hne : ¬ yisn a ≠ yisn b := by simpa using hb4p
    refine W_skip ?_
    refine thn_normal ?_
    refine W_seq ?_
    refine W_region rfl ?_
    refine WO_p (PS_move_slice rfl) ?_
    refine WO_p (PS_move_slice rfl) ?_
    refine WO_call Hvac.call76 (by rfl) (Ret.mono (nCmp_spec (by first | exact NN.nil _ | assumption | exact NN.ext (by assumption) (by repeat (first | assumption | exact Ext.refl _ | refine Ext.alloc ?_ _ | refine Ext.drew ?_ | refine Ext.setB ?_ (by first | omega | (simp only [size_alloc, size_setB, size_drew]; omega)) _ | exact Ext.trans (by assumption) (by assumption) | refine Ext.trans ?_ (by assumption)))) (by first | exact NN.nil _ | assumption | exact NN.ext (by assumption) (by repeat (first | assumption | exact Ext.refl _ | refine Ext.alloc ?_ _ | refine Ext.drew ?_ | refine Ext.setB ?_ (by first | omega | (simp only [size_alloc, size_setB, size_drew]; omega)) _ | exact Ext.trans (by assumption) (by assumption) | refine Ext.trans ?_ (by assumption)))) (by first | assumption | omega | (rw [sz_zero]; omega)) (by first | assumption | omega | (rw [sz_zero]; omega))) ?_)
    rintro _ w76_6 ⟨hE76_6, rfl⟩
    have hz76_6 := hE76_6.1
    try simp only [size_alloc, size_setB, size_drew] at hz76_6
    refine WO_p (PS_lss rfl rfl) ?_
    refine WO_p (PS_assign_bool rfl) ?_
    refine WO_nil ?_
    refine thn_normal ?_
    refine W_ret ?_
    refine bodyQ_ret1 Hvac.results309 rfl (.bool _) rfl ?_
    first
    | (refine ⟨(by repeat (first | assumption | exact Ext.refl _ | refine Ext.alloc ?_ _ | refine Ext.drew ?_ | refine Ext.setB ?_ (by first | omega | (simp only [size_alloc, size_setB, size_drew]; omega)) _ | refine Ext.trans ?_ (by assumption))), ?_⟩; unfold ysb; rw [if_pos hne]; done)
    | (refine ⟨(by repeat (first | assumption | exact Ext.refl _ | refine Ext.alloc ?_ _ | refine Ext.drew ?_ | refine Ext.setB ?_ (by first | omega | (simp only [size_alloc, size_setB, size_drew]; omega)) _ | refine Ext.trans ?_ (by assumption))), ?_⟩; unfold ysb; rw [if_neg hne]; exact congrArg Value.bool (al_dd.2 cmpI_lt))

set_option maxRecDepth 10000 in
set_option maxHeartbeats 4000000 in
theorem truth_spec [Om] (w : World) (hO : OmB w) (q : Bool) : Ret Hvac.prog 308 #[.bool q] w fun u w' => Ext w w' ∧ ∃ s' : SV, u = .slice s'.1 s'.2.1 s'.2.2 ∧ NN w' s' (if q then 1 else 0) := by
  refine Ret_of_W Hvac.func308 rfl rfl ?_
  refine W_seq ?_
  refine W_region rfl ?_
  refine WO_p (PS_assign_slice rfl) ?_
  refine WO_nil ?_
  refine thn_normal ?_
  refine W_seq ?_
  refine W_seq ?_
  refine W_region rfl ?_
  refine WO_p (PS_move_bool rfl) ?_
  refine WO_nil ?_
  refine thn_normal ?_
  refine W_if rfl (fun hb2 => ?_) (fun hb2 => ?_)
  · have hb2p := hb2.h; try simp only [al_ete, al_dfn, Bool.not_eq_true', Bool.not_eq_false', al_ne, Bool.not_not, al_nn] at hb2p
    rw [if_pos hb2p]
    refine W_seq ?_
    refine W_region rfl ?_
    refine WO_buildSliceV (.int _ _) Hvac.runUnderlying92 Hvac.sizeOf5 Hvac.zeroValue5 rfl rfl (by decide) (by decide) ?_
    refine WO_p (PS_assign_slice rfl) ?_
    refine WO_nil ?_
    refine thn_normal ?_
    refine W_ret ?_
    refine thn_ret ?_
    refine bodyQ_ret1 Hvac.results308 rfl (.slice _ _ _) rfl ?_
    first
    | exact ⟨(by repeat (first | assumption | exact Ext.refl _ | refine Ext.alloc ?_ _ | refine Ext.drew ?_ | refine Ext.setB ?_ (by first | omega | (simp only [size_alloc, size_setB, size_drew]; omega)) _ | refine Ext.trans ?_ (by assumption))), (none, 0, 0), rfl, NN.nil _⟩
    | (refine ⟨(by repeat (first | assumption | exact Ext.refl _ | refine Ext.alloc ?_ _ | refine Ext.drew ?_ | refine Ext.setB ?_ (by first | omega | (simp only [size_alloc, size_setB, size_drew]; omega)) _ | refine Ext.trans ?_ (by assumption))), (some ⟨_, 0, none⟩, 1, 1), rfl, ?_⟩
       unfold NN
       rw [dg_one]
       exact PB.newY (Hb.newY _ _) (hO.fresh (Nat.le_refl _)) (by decide) rfl)
  · have hb2p := hb2.h; try simp only [al_ete, al_dfn, Bool.not_eq_true', Bool.not_eq_false', al_ne, Bool.not_not, al_nn] at hb2p
    rw [if_neg (by rw [hb2p]; decide)]
    refine W_skip ?_
    refine thn_normal ?_
    refine W_seq ?_
    refine W_region rfl ?_
    refine WO_p (PS_assign_slice rfl) ?_
    refine WO_nil ?_
    refine thn_normal ?_
    refine W_ret ?_
    refine bodyQ_ret1 Hvac.results308 rfl (.slice _ _ _) rfl ?_
    first
    | exact ⟨(by repeat (first | assumption | exact Ext.refl _ | refine Ext.alloc ?_ _ | refine Ext.drew ?_ | refine Ext.setB ?_ (by first | omega | (simp only [size_alloc, size_setB, size_drew]; omega)) _ | refine Ext.trans ?_ (by assumption))), (none, 0, 0), rfl, NN.nil _⟩
    | (refine ⟨(by repeat (first | assumption | exact Ext.refl _ | refine Ext.alloc ?_ _ | refine Ext.drew ?_ | refine Ext.setB ?_ (by first | omega | (simp only [size_alloc, size_setB, size_drew]; omega)) _ | refine Ext.trans ?_ (by assumption))), (some ⟨_, 0, none⟩, 1, 1), rfl, ?_⟩
       unfold NN
       rw [dg_one]
       exact PB.newY (Hb.newY _ _) (hO.fresh (Nat.le_refl _)) (by decide) rfl)

theorem sz_truth [Om] {w : World} {s : SV} {q : Bool} (h : NN w s (if q then 1 else 0)) : sz (if q then 1 else 0) ≤ 1 := by
  split
  · exact sz_le (by decide)
  · rw [sz_zero]; decide
end Go.Proofs.YgvacwGreat
