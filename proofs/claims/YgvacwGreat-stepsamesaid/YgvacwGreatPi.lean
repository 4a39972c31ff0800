import Derived.Test.YgvacwGreatPh
namespace Go.Proofs.YgvacwGreat
set_option linter.unusedSimpArgs false
set_option linter.unusedVariables false
theorem mul_step {M M0 Y : List Int} (hM : ∀ x ∈ M, 0 ≤ x ∧ x ≤ 255) {i j c : Nat} {xi s : Int} (hx : 0 ≤ xi) (hY : ∀ x ∈ Y, 0 ≤ x ∧ x ≤ 255) (hl : i + j < M.length) (hI : dv M + 256 ^ (i + j) * c = dv M0 + 256 ^ i * (xi.toNat * dv (Y.take j)))
    (hs : s = (c : Int) + (xi * Y.getD j 0 + M.getD (i + j) 0)) : dv (M.set (i + j) (s % 256)) + 256 ^ (i + (j + 1)) * (s / 2 ^ 8).toNat = dv M0 + 256 ^ i * (xi.toNat * dv (Y.take (j + 1))) := by
  have h1 := gd_by hM (i + j)
  have h2 := gd_by hY j
  have e0 := dv_set M (i + j) (s % 256) hl
  have hxy : 0 ≤ xi * Y.getD j 0 := Int.mul_nonneg hx h2.1
  have hxn : (xi * Y.getD j 0).toNat = xi.toNat * (Y.getD j 0).toNat := by
    obtain ⟨a, ha⟩ : ∃ a : Nat, xi = (a : Int) := ⟨xi.toNat, by omega⟩
    obtain ⟨b, hb⟩ : ∃ b : Nat, Y.getD j 0 = (b : Int) := ⟨(Y.getD j 0).toNat, by omega⟩
    rw [ha, hb, ← Int.natCast_mul, Int.toNat_natCast, Int.toNat_natCast, Int.toNat_natCast]
  have e : (s % 256).toNat + 256 * (s / 2 ^ 8).toNat = c + (xi.toNat * (Y.getD j 0).toNat + (M.getD (i + j) 0).toNat) := by rw [← hxn]; omega
  have e2 := congrArg (fun z => 256 ^ (i + j) * z) e
  simp only [Nat.mul_add] at e2
  have e3 : 256 ^ (i + (j + 1)) * (s / 2 ^ 8).toNat = 256 ^ (i + j) * (256 * (s / 2 ^ 8).toNat) := by rw [← Nat.add_assoc, Nat.pow_succ, Nat.mul_assoc]
  have e4 : 256 ^ i * (xi.toNat * dv (Y.take (j + 1))) = 256 ^ i * (xi.toNat * dv (Y.take j)) + 256 ^ (i + j) * (xi.toNat * (Y.getD j 0).toNat) := by
    rw [dv_take1, Nat.mul_add, Nat.mul_add, Nat.pow_add]
    congr 1
    rw [Nat.mul_assoc]
    congr 1
    rw [← Nat.mul_assoc, ← Nat.mul_assoc, Nat.mul_comm xi.toNat]
  rw [e3, e4]
  omega
theorem bOr8_nat {a b : Int} (ha : 0 ≤ a) (ha' : a ≤ 255) (hb : 0 ≤ b) (hb' : b ≤ 255) : bOr8 a b = ((a.toNat ||| b.toNat : Nat) : Int) := by
  unfold bOr8; rw [BitVec.toNat_or, ofInt_toNat 8 a ha (by omega), ofInt_toNat 8 b hb (by omega)]
theorem shl1_or {d c : Int} (hd : 0 ≤ d ∧ d ≤ 255) (hc : 0 ≤ c ∧ c ≤ 1) : bOr8 ((d * 2 ^ 1) % 256) c = (d * 2) % 256 + c := by
  rw [bOr8_nat (by omega) (by omega) hc.1 (by omega)]
  have e : ((d * 2 ^ 1) % 256).toNat = 2 ^ 1 * (d.toNat % 128) := by omega
  rw [e, ← Nat.two_pow_add_eq_or_of_lt (by omega)]
  omega
theorem or_bit {a k : Nat} (hk : k < 8) (ha : a < 256) (h0 : a / 2 ^ k % 2 = 0) : a ||| 2 ^ k = a + 2 ^ k := by
  have hd : a % 2 ^ (k + 1) < 2 ^ k := by
    rw [Nat.pow_succ, Nat.mod_mul, h0, Nat.mul_zero, Nat.add_zero]
    exact Nat.mod_lt _ (Nat.pow_pos (by decide))
  have e1 : a = 2 ^ (k + 1) * (a / 2 ^ (k + 1)) + a % 2 ^ (k + 1) := (Nat.div_add_mod a _).symm
  have e2 : a ||| 2 ^ k = 2 ^ (k + 1) * (a / 2 ^ (k + 1)) ||| (a % 2 ^ (k + 1) ||| 2 ^ k) := by
    conv => lhs; rw [e1, Nat.two_pow_add_eq_or_of_lt (Nat.mod_lt _ (Nat.pow_pos (by decide)))]
    rw [al_noa]
  have e3 : a % 2 ^ (k + 1) ||| 2 ^ k = 2 ^ k + a % 2 ^ (k + 1) := by
    rw [al_noc]
    have := Nat.two_pow_add_eq_or_of_lt hd 1
    rw [Nat.mul_one] at this; exact this.symm
  rw [e2, e3, ← Nat.two_pow_add_eq_or_of_lt (by have h8 : 2 ^ (k + 1) = 2 ^ k * 2 := Nat.pow_succ _ _; omega)]
  omega
theorem mul_byte {a b : Int} (ha : 0 ≤ a ∧ a ≤ 255) (hb : 0 ≤ b ∧ b ≤ 255) : 0 ≤ a * b ∧ a * b ≤ 65025 := by
  refine ⟨Int.mul_nonneg ha.1 hb.1, ?_⟩
  have := Int.mul_le_mul ha.2 hb.2 hb.1 (by decide)
  omega
theorem dbl_step {M R : List Int} (hR : ∀ x ∈ R, 0 ≤ x ∧ x ≤ 255) {j c cb : Nat} (hl : j < M.length) (hc : c ≤ 1) (hI : dv (M.take j) + 256 ^ j * c = 2 * dv (R.take j) + cb) :
    dv ((M.set j (R.getD j 0 * 2 % 256 + (c : Int))).take (j + 1)) + 256 ^ (j + 1) * (R.getD j 0 / 2 ^ 7).toNat = 2 * dv (R.take (j + 1)) + cb := by
  have h1 := gd_by hR j
  rw [dv_set_take _ _ _ hl, dv_take1 R, Nat.pow_succ]
  have e : (R.getD j 0 * 2 % 256 + (c : Int)).toNat + 256 * (R.getD j 0 / 2 ^ 7).toNat = c + 2 * (R.getD j 0).toNat := by omega
  have e2 := congrArg (fun z => 256 ^ j * z) e
  simp only [Nat.mul_add] at e2
  have e3 : 256 ^ j * 256 * (R.getD j 0 / 2 ^ 7).toNat = 256 ^ j * (256 * (R.getD j 0 / 2 ^ 7).toNat) := Nat.mul_assoc _ _ _
  have e4 : 2 * (256 ^ j * (R.getD j 0).toNat) = 256 ^ j * (2 * (R.getD j 0).toNat) := by rw [← Nat.mul_assoc, ← Nat.mul_assoc, Nat.mul_comm 2]
  omega
theorem div_step {x y i : Nat} (hy : 0 < y) (hi : 0 < i) : (2 * (x / 2 ^ i % y) + x / 2 ^ (i - 1) % 2 < y → x / 2 ^ (i - 1) % y = 2 * (x / 2 ^ i % y) + x / 2 ^ (i - 1) % 2 ∧ x / 2 ^ (i - 1) / y * 2 ^ (i - 1) = x / 2 ^ i / y * 2 ^ i) ∧
    (y ≤ 2 * (x / 2 ^ i % y) + x / 2 ^ (i - 1) % 2 → x / 2 ^ (i - 1) % y = 2 * (x / 2 ^ i % y) + x / 2 ^ (i - 1) % 2 - y ∧ x / 2 ^ (i - 1) / y * 2 ^ (i - 1) = x / 2 ^ i / y * 2 ^ i + 2 ^ (i - 1)) := by
  obtain ⟨k, rfl⟩ : ∃ k, i = k + 1 := ⟨i - 1, by omega⟩
  rw [Nat.add_sub_cancel]
  have e0 : x / 2 ^ (k + 1) = x / 2 ^ k / 2 := by rw [Nat.pow_succ, Nat.div_div_eq_div_mul]
  rw [e0]
  generalize x / 2 ^ k = z
  have h1 := Nat.div_add_mod (z / 2) y
  have h2 := Nat.mod_lt (z / 2) hy
  have hz : z = y * (2 * (z / 2 / y)) + (2 * (z / 2 % y) + z % 2) := by
    have : y * (2 * (z / 2 / y)) = 2 * (y * (z / 2 / y)) := by rw [← Nat.mul_assoc, ← Nat.mul_assoc, Nat.mul_comm y 2]
    omega
  have p : 2 ^ (k + 1) = 2 * 2 ^ k := by rw [Nat.pow_succ, Nat.mul_comm]
  refine ⟨fun h => ?_, fun h => ?_⟩
  · have hd : z / y = 2 * (z / 2 / y) := by
      conv => lhs; rw [hz]
      rw [Nat.mul_add_div hy, Nat.div_eq_of_lt h, Nat.add_zero]
    have hm : z % y = 2 * (z / 2 % y) + z % 2 := by
      conv => lhs; rw [hz]
      rw [Nat.mul_add_mod, Nat.mod_eq_of_lt h]
    refine ⟨hm, ?_⟩
    rw [hd, p, Nat.mul_comm 2 (z / 2 / y), Nat.mul_assoc]
  · have hlt : 2 * (z / 2 % y) + z % 2 - y < y := by omega
    have hz2 : z = y * (2 * (z / 2 / y) + 1) + (2 * (z / 2 % y) + z % 2 - y) := by rw [Nat.mul_add, Nat.mul_one]; omega
    have hd : z / y = 2 * (z / 2 / y) + 1 := by
      conv => lhs; rw [hz2]
      rw [Nat.mul_add_div hy, Nat.div_eq_of_lt hlt, Nat.add_zero]
    have hm : z % y = 2 * (z / 2 % y) + z % 2 - y := by
      conv => lhs; rw [hz2]
      rw [Nat.mul_add_mod, Nat.mod_eq_of_lt hlt]
    refine ⟨hm, ?_⟩
    rw [hd, p, Nat.add_mul, Nat.one_mul, Nat.mul_comm 2 (z / 2 / y), Nat.mul_assoc]

set_option maxRecDepth 10000 in
set_option maxHeartbeats 4000000 in
theorem subX_spec [Om] (s t : SV) (A B : List Int) (w : World) (hO : OmB w) (hs : AB w s A) (ht : AB w t B) (hm : s.2.1 ≤ 10000000) (hm2 : t.2.1 ≤ 10000000) : Ret Hvac.prog 82 #[.slice s.1 s.2.1 s.2.2, .slice t.1 t.2.1 t.2.2] w fun u w' => Ext w w' ∧ ∃ s' : SV, u = .tuple #[.slice s'.1 s'.2.1 s'.2.2, .bool (decide (dv B ≤ dv A))] ∧ NN w' s' (dv A - dv B) := by
  obtain ⟨p, n, cp⟩ := s
  obtain ⟨p', n', cp'⟩ := t
  have htr := hs.trim
  have htr2 := ht.trim
  dsimp only at htr htr2 hm hm2 ⊢
  obtain ⟨htA, htl⟩ := htr
  obtain ⟨htB, htl2⟩ := htr2
  have hb2 : 0 < sz (dv B) → ∀ b o, p' = some ⟨b, o, none⟩ → b < w.heap.size := by
    intro h0 b o e
    obtain ⟨b2, o2, r, T, fz, hp, hb, _⟩ := htB.row h0
    dsimp only at hp
    rw [hp] at e
    injection e with e
    injection e with e1 e2
    rw [← e1]; exact hb.lt
  generalize hnn : dv A = nn at *
  generalize hnn2 : dv B = mm at *
  refine Ret_of_W Hvac.func82 rfl rfl ?_
  refine W_seq ?_
  refine W_region rfl ?_
  refine WO_p (PS_assign_slice rfl) ?_
  refine WO_p (PS_assign_bool rfl) ?_
  refine WO_nil ?_
  refine thn_normal ?_
  refine W_seq ?_
  refine W_seq ?_
  refine W_region rfl ?_
  refine WO_p (PS_move_slice rfl) ?_
  refine WO_p (PS_move_slice rfl) ?_
  refine WO_call Hvac.call76 (by rfl) (Ret.mono (cmpX_spec (p, n, cp) (p', n', cp') A B _ (AB.ext hs (by repeat (first | assumption | exact Ext.refl _ | refine Ext.alloc ?_ _ | refine Ext.drew ?_ | refine Ext.setB ?_ (by first | omega | (simp only [size_alloc, size_setB, size_drew]; omega)) _ | exact Ext.trans (by assumption) (by assumption) | refine Ext.trans ?_ (by assumption)))) (AB.ext ht (by repeat (first | assumption | exact Ext.refl _ | refine Ext.alloc ?_ _ | refine Ext.drew ?_ | refine Ext.setB ?_ (by first | omega | (simp only [size_alloc, size_setB, size_drew]; omega)) _ | exact Ext.trans (by assumption) (by assumption) | refine Ext.trans ?_ (by assumption)))) (by dsimp only; omega) (by dsimp only; omega)) ?_)
  rintro _ w1 ⟨hE1, hu1⟩
  rw [hnn, hnn2] at hu1
  subst hu1
  have hz1 := hE1.1
  have hcb := cmpI_bd nn mm
  refine WO_p (PS_lss rfl rfl) ?_
  refine WO_nil ?_
  refine thn_normal ?_
  refine W_if rfl (fun hb3 => ?_) (fun hb3 => ?_)
  · have hb3p := hb3.h; try simp only [al_ete, al_dfn, Bool.not_eq_true', Bool.not_eq_false', al_ne, Bool.not_not, al_nn] at hb3p
    have hlt : nn < mm := cmpI_lt.1 hb3p
    refine W_seq ?_
    refine W_region rfl ?_
    refine WO_p (PS_assign_slice rfl) ?_
    refine WO_p (PS_assign_bool rfl) ?_
    refine WO_nil ?_
    refine thn_normal ?_
    refine W_ret ?_
    refine thn_ret ?_
    refine bodyQ_ret2 Hvac.results82 rfl rfl (.slice _ _ _) (.bool _) rfl rfl ?_
    first
    | (refine ⟨(by repeat (first | assumption | exact Ext.refl _ | refine Ext.alloc ?_ _ | refine Ext.drew ?_ | refine Ext.setB ?_ (by first | omega | (simp only [size_alloc, size_setB, size_drew]; omega)) _ | refine Ext.trans ?_ (by assumption))), (none, 0, 0), ?_, ?_⟩
       · rw [al_ef (by omega)] <;> rfl
       · rw [show nn - mm = 0 by omega]; exact NN.nil _)
    | (have hv : dv A5 = nn - mm := by
         have h1 := dv_lt hby5
         rw [hl5] at h1
         match c5, hd5 with
         | 0, hd5 => omega
         | c + 1, hd5 =>
           rw [Nat.mul_add, Nat.mul_one] at hd5
           omega
       rw [hv] at hs6
       refine ⟨(by repeat (first | assumption | exact Ext.refl _ | refine Ext.alloc ?_ _ | refine Ext.drew ?_ | refine Ext.setB ?_ (by first | omega | (simp only [size_alloc, size_setB, size_drew]; omega)) _ | refine Ext.trans ?_ (by assumption))), s6, ?_, hs6⟩
       rw [al_et (by omega)] <;> rfl)
  · have hb3p := hb3.h; try simp only [al_ete, al_dfn, Bool.not_eq_true', Bool.not_eq_false', al_ne, Bool.not_not, al_nn] at hb3p
    have hge : mm ≤ nn := Nat.le_of_not_lt fun h9 => hb3p (cmpI_lt.2 h9)
    refine W_skip ?_
    refine thn_normal ?_
    refine W_seq ?_
    refine W_region rfl ?_
    refine WO_p (PS_move_slice rfl) ?_
    refine WO_call Hvac.call79 (by rfl) (Ret.mono (normN_spec (p, n, cp) A _ (AB.ext hs (by repeat (first | assumption | exact Ext.refl _ | refine Ext.alloc ?_ _ | refine Ext.drew ?_ | refine Ext.setB ?_ (by first | omega | (simp only [size_alloc, size_setB, size_drew]; omega)) _ | exact Ext.trans (by assumption) (by assumption) | refine Ext.trans ?_ (by assumption)))) (by dsimp only; omega)) ?_)
    rintro _ w3 ⟨hE3, s3, rfl, hN3⟩
    rw [hnn] at hN3
    have hz3 := hE3.1
    refine WO_p (PS_assign_slice rfl) ?_
    refine WO_nil ?_
    refine thn_normal ?_
    refine W_seq ?_
    refine W_region rfl ?_
    refine WO_p (PS_move_slice rfl) ?_
    refine WO_p (PS_move_slice rfl) ?_
    refine WO_call Hvac.call86 (by rfl) (Ret.mono (trimX_spec (p', n', cp') B _ (AB.ext ht (by repeat (first | assumption | exact Ext.refl _ | refine Ext.alloc ?_ _ | refine Ext.drew ?_ | refine Ext.setB ?_ (by first | omega | (simp only [size_alloc, size_setB, size_drew]; omega)) _ | exact Ext.trans (by assumption) (by assumption) | refine Ext.trans ?_ (by assumption)))) (by dsimp only; omega)) ?_)
    rintro _ w4 ⟨hE4, hu4⟩
    rw [hnn2] at hu4
    subst hu4
    have hz4 := hE4.1
    refine WO_call Hvac.call161 (by rfl) (Ret.mono (takeN_spec s3 (p', sz mm, sz mm) (dg nn) (dg mm) w1 _ (by repeat (first | assumption | exact Ext.refl _ | refine Ext.alloc ?_ _ | refine Ext.drew ?_ | refine Ext.setB ?_ (by first | omega | (simp only [size_alloc, size_setB, size_drew]; omega)) _ | exact Ext.trans (by assumption) (by assumption) | refine Ext.trans ?_ (by assumption))) (hN3.ext2 (by repeat (first | assumption | exact Ext.refl _ | refine Ext.alloc ?_ _ | refine Ext.drew ?_ | refine Ext.setB ?_ (by first | omega | (simp only [size_alloc, size_setB, size_drew]; omega)) _ | exact Ext.trans (by assumption) (by assumption) | refine Ext.trans ?_ (by assumption)))) (dg_by nn) (htB.ext (by repeat (first | assumption | exact Ext.refl _ | refine Ext.alloc ?_ _ | refine Ext.drew ?_ | refine Ext.setB ?_ (by first | omega | (simp only [size_alloc, size_setB, size_drew]; omega)) _ | exact Ext.trans (by assumption) (by assumption) | refine Ext.trans ?_ (by assumption)))) (fun h0 b o e => Nat.lt_of_lt_of_le (hb2 h0 b o e) hz1) (by rw [dg_len]; omega) (by rw [dg_len]; exact sz_mono (by omega))) ?_)
    rintro _ w5 ⟨c5, A5, rfl, hE5, hN5, hl5, hby5, hd5⟩
    rw [dv_dg, dv_dg] at hd5
    refine WO_nil ?_
    refine thn_normal ?_
    refine W_seq ?_
    refine W_region rfl ?_
    refine WO_p (PS_move_slice rfl) ?_
    refine WO_call Hvac.call87 (by rfl) (Ret.mono (clipX_spec s3 A5 _ (hN5.pb (hO.ext hE1) hby5) (by rw [hN5.len, hl5, dg_len]; omega)) ?_)
    rintro _ w6 ⟨hE6, s6, rfl, hs6⟩
    refine WO_p (PS_assign_slice rfl) ?_
    refine WO_p (PS_assign_bool rfl) ?_
    refine WO_nil ?_
    refine thn_normal ?_
    refine W_ret ?_
    refine bodyQ_ret2 Hvac.results82 rfl rfl (.slice _ _ _) (.bool _) rfl rfl ?_
    first
    | (refine ⟨(by repeat (first | assumption | exact Ext.refl _ | refine Ext.alloc ?_ _ | refine Ext.drew ?_ | refine Ext.setB ?_ (by first | omega | (simp only [size_alloc, size_setB, size_drew]; omega)) _ | refine Ext.trans ?_ (by assumption))), (none, 0, 0), ?_, ?_⟩
       · rw [al_ef (by omega)] <;> rfl
       · rw [show nn - mm = 0 by omega]; exact NN.nil _)
    | (have hv : dv A5 = nn - mm := by
         have h1 := dv_lt hby5
         rw [hl5] at h1
         match c5, hd5 with
         | 0, hd5 => omega
         | c + 1, hd5 =>
           rw [Nat.mul_add, Nat.mul_one] at hd5
           omega
       rw [hv] at hs6
       refine ⟨(by repeat (first | assumption | exact Ext.refl _ | refine Ext.alloc ?_ _ | refine Ext.drew ?_ | refine Ext.setB ?_ (by first | omega | (simp only [size_alloc, size_setB, size_drew]; omega)) _ | refine Ext.trans ?_ (by assumption))), s6, ?_, hs6⟩
       rw [al_et (by omega)] <;> rfl)

set_option maxRecDepth 10000 in
set_option maxHeartbeats 4000000 in
theorem mulX_spec [Om] (s t : SV) (A B : List Int) (w : World) (hO : OmB w) (hs : AB w s A) (ht : AB w t B) (hm : s.2.1 ≤ 10000000) (hm2 : t.2.1 ≤ 10000000) : Ret Hvac.prog 26 #[.slice s.1 s.2.1 s.2.2, .slice t.1 t.2.1 t.2.2] w fun u w' => Ext w w' ∧ ∃ s' : SV, u = .slice s'.1 s'.2.1 s'.2.2 ∧ NN w' s' (dv A * dv B) := by
  obtain ⟨p, n, cp⟩ := s
  obtain ⟨p', n', cp'⟩ := t
  have htr := hs.trim
  have htr2 := ht.trim
  dsimp only at htr htr2 hm hm2 ⊢
  obtain ⟨htA, htl⟩ := htr
  obtain ⟨htB, htl2⟩ := htr2
  generalize hnn : dv A = nn at *
  generalize hnn2 : dv B = mm at *
  refine Ret_of_W Hvac.func26 rfl rfl ?_
  refine W_seq ?_
  refine W_region rfl ?_
  refine WO_p (PS_assign_slice rfl) ?_
  refine WO_nil ?_
  refine thn_normal ?_
  refine W_seq ?_
  refine W_region rfl ?_
  refine WO_p (PS_move_slice rfl) ?_
  refine WO_call Hvac.call86 (by rfl) (Ret.mono (trimX_spec (p, n, cp) A _ (AB.ext hs (by repeat (first | assumption | exact Ext.refl _ | refine Ext.alloc ?_ _ | refine Ext.drew ?_ | refine Ext.setB ?_ (by first | omega | (simp only [size_alloc, size_setB, size_drew]; omega)) _ | exact Ext.trans (by assumption) (by assumption) | refine Ext.trans ?_ (by assumption)))) (by dsimp only; omega)) ?_)
  rintro _ w1 ⟨hE1, hu1⟩
  rw [hnn] at hu1
  subst hu1
  have hz1 := hE1.1
  refine WO_p (PS_assign_slice rfl) ?_
  refine WO_nil ?_
  refine thn_normal ?_
  refine W_seq ?_
  refine W_region rfl ?_
  refine WO_p (PS_move_slice rfl) ?_
  refine WO_call Hvac.call86 (by rfl) (Ret.mono (trimX_spec (p', n', cp') B _ (AB.ext ht (by repeat (first | assumption | exact Ext.refl _ | refine Ext.alloc ?_ _ | refine Ext.drew ?_ | refine Ext.setB ?_ (by first | omega | (simp only [size_alloc, size_setB, size_drew]; omega)) _ | exact Ext.trans (by assumption) (by assumption) | refine Ext.trans ?_ (by assumption)))) (by dsimp only; omega)) ?_)
  rintro _ w2 ⟨hE2, hu2⟩
  rw [hnn2] at hu2
  subst hu2
  have hz2 := hE2.1
  refine WO_p (PS_assign_slice rfl) ?_
  refine WO_nil ?_
  refine thn_normal ?_
  refine W_seq ?_
  have hE02 : Ext w w2 := hE1.trans hE2
  obtain ⟨n1, hn1⟩ : ∃ n1 : Nat, n1 = sz nn + sz mm := ⟨_, rfl⟩
  have hn2 : (sz nn : Int) + (sz mm : Int) = (n1 : Int) := by omega
  refine W_region rfl ?_
  refine WO_p (PS_move_slice rfl) ?_
  refine WO_p (PS_lenS Hvac.runUnderlying92 rfl) ?_
  refine WO_p (PS_move_slice rfl) ?_
  refine WO_p (PS_lenS Hvac.runUnderlying92 rfl) ?_
  refine WO_p (PS_add_i64n rfl rfl (by omega) (by omega)) ?_
  rw [hn2]
  refine WO_make (z := .int .u8 0) Hvac.underlying92 info5 rfl rfl rfl (by omega) (by omega) (by show (1:Int) * _ ≤ _; omega) (by omega) ?_
  rw [show ((n1:Int)).toNat = n1 from Int.toNat_natCast _, show madeCells (Value.int IntKind.u8 0).cells (n1 * Hvac.t5.size) = ic .u8 (List.replicate n1 0) from by rw [show Hvac.t5.size = 1 from rfl, Nat.mul_one]; exact made_ic .u8 _]
  apply WO_gen4; intro w27 hw27
  have hb27 : Hb w27 w2.heap.size (.cells (ic .u8 (List.replicate n1 0)) 5 (0, 0)) := by rw [hw27]; exact Hb.newY _ _
  have hE27 : Ext w w27 := by rw [hw27]; exact Ext.alloc hE02 _
  have hfr := hO.fresh hE02.1
  have hz02 := hE02.1
  obtain ⟨b4, hb4e⟩ : ∃ b4, b4 = w2.heap.size := ⟨_, rfl⟩
  rw [← hb4e] at hb27 hfr ⊢
  clear hw27
  refine WO_p (PS_assign_slice rfl) ?_
  refine WO_nil ?_
  refine thn_normal ?_
  refine W_seq ?_
  refine W_seq ?_
  refine W_region rfl ?_
  refine WO_p (PS_move_slice rfl) ?_
  refine WO_p (PS_lenS Hvac.runUnderlying92 rfl) ?_
  refine WO_p (PS_move_int rfl) ?_
  refine WO_nil ?_
  refine thn_normal ?_
  refine W_block ?_
  refine W_loopN (fun k ρ w' => ∃ (i : Nat) (M : List Int), i + k = sz nn ∧ By M n1 ∧ (∀ q, i + sz mm ≤ q → M.getD q 0 = 0) ∧ dv M = dv ((dg nn).take i) * mm ∧ Fr [(0, .slice p (sz nn) (sz nn)), (1, .slice p' (sz mm) (sz mm)), (5, .slice (some ⟨b4, 0, none⟩) n1 n1), (21, .slice p (sz nn) (sz nn)), (22, .int .i64 (sz nn)), (23, .int .i64 i)] ρ ∧ Ext w w' ∧ Hb w' b4 (.cells (ic .u8 M) 5 (0, 0))) (sz nn) ?_ ?_
  · exact ⟨0, List.replicate n1 0, by omega, rep_by n1, fun q _ => gd_rep _ _, by rw [dv_rep0, List.take_zero]; simp [dv], ⟨rfl, rfl, rfl, rfl, rfl, rfl, trivial⟩, hE27, hb27⟩
  intro k4 ρ4 w4 hI4
  obtain ⟨i, M, hik, hL, hzM, hdM, hFr4, hE4, hbp4⟩ := hI4
  refine W_env _ hFr4 ?_
  have hz4 := hE4.1
  refine W_seq ?_
  refine W_region rfl ?_
  refine WO_p (PS_lss rfl rfl) ?_
  refine WO_nil ?_
  refine thn_normal ?_
  refine W_seq ?_
  refine W_if rfl (fun hb4 => ?_) (fun hb4 => ?_)
  · have hb4p := hb4.h; try simp only [al_ete, al_dfn, Bool.not_eq_true', Bool.not_eq_false', al_ne, Bool.not_not, al_nn] at hb4p
    obtain ⟨b, o, r, T, fz, hp, hb, hrs, hat⟩ := (htA.ext hE4).at_ (by omega)
    subst hp
    have hce := hat i (by omega)
    have hgb := gd_by (dg_by nn) i
    refine W_skip ?_
    refine thn_normal ?_
    refine W_seq ?_
    refine W_block ?_
    refine W_seq ?_
    refine W_region rfl ?_
    refine WO_p (PS_move_int rfl) ?_
    refine WO_p (PS_indexS Hvac.runUnderlying92 Hvac.sizeOf5 rfl rfl (by omega) (by omega)) ?_
    refine WO_load (.int _ _) Hvac.isAgg5 rfl (Hb.h (by repeat (first | assumption | exact Hb.newY _ _ | refine Hb.alloc ?_ | refine Hb.drew ?_ | refine Hb.ext (by assumption) ?_ | exact Hb.setSameL (by first | omega | (simp only [size_alloc, size_setB, size_drew]; omega)) | exact Hb.setSame (by assumption) | refine Hb.set (by first | omega | (simp only [size_alloc, size_setB, size_drew]; omega)) ?_ ))) (Ce.h (by first | assumption | exact ⟨rfl⟩)) ?_
    refine WO_p (PS_assign_int rfl) ?_
    refine WO_p (PS_assign_int rfl) ?_
    refine WO_nil ?_
    refine thn_normal ?_
    refine W_seq ?_
    refine W_region rfl ?_
    refine WO_p (PS_assign_int rfl) ?_
    refine WO_nil ?_
    refine thn_normal ?_
    refine W_seq ?_
    refine W_seq ?_
    refine W_region rfl ?_
    refine WO_p (PS_move_slice rfl) ?_
    refine WO_p (PS_lenS Hvac.runUnderlying92 rfl) ?_
    refine WO_p (PS_move_int rfl) ?_
    refine WO_nil ?_
    refine thn_normal ?_
    refine W_block ?_
    refine W_loopN (fun k ρ w' => ∃ (j : Nat) (c : Nat) (M5 : List Int), j + k = sz mm ∧ By M5 n1 ∧ c ≤ 255 ∧ (∀ q, i + j ≤ q → M5.getD q 0 = M.getD q 0) ∧ dv M5 + 256 ^ (i + j) * c = dv M + 256 ^ i * (((dg nn).getD i 0).toNat * dv ((dg mm).take j)) ∧ Fr [(0, .slice (some ⟨b, o, none⟩) (sz nn) (sz nn)), (1, .slice p' (sz mm) (sz mm)), (5, .slice (some ⟨b4, 0, none⟩) n1 n1), (6, .int .i64 i), (7, .int .u8 ((dg nn).getD i 0)), (8, .int .u32 (c : Int)), (21, .slice (some ⟨b, o, none⟩) (sz nn) (sz nn)), (22, .int .i64 (sz nn)), (23, .int .i64 i), (28, .slice p' (sz mm) (sz mm)), (29, .int .i64 (sz mm)), (30, .int .i64 j)] ρ ∧ Ext w w' ∧ Hb w' b4 (.cells (ic .u8 M5) 5 (0, 0))) (sz mm) ?_ ?_
    · exact ⟨0, 0, M, by omega, hL, by omega, fun q _ => rfl, rfl, ⟨rfl, rfl, rfl, rfl, rfl, rfl, rfl, rfl, rfl, rfl, rfl, rfl, trivial⟩, (by repeat (first | assumption | exact Ext.refl _ | refine Ext.alloc ?_ _ | refine Ext.drew ?_ | refine Ext.setB ?_ (by first | omega | (simp only [size_alloc, size_setB, size_drew]; omega)) _ | refine Ext.trans ?_ (by assumption))), Hb.mk (Hb.h (by repeat (first | assumption | exact Hb.newY _ _ | refine Hb.alloc ?_ | refine Hb.drew ?_ | refine Hb.ext (by assumption) ?_ | exact Hb.setSameL (by first | omega | (simp only [size_alloc, size_setB, size_drew]; omega)) | exact Hb.setSame (by assumption) | refine Hb.set (by first | omega | (simp only [size_alloc, size_setB, size_drew]; omega)) ?_ )))⟩
    intro k5 ρ5 w5 hI5
    obtain ⟨j, c, M5, hjk, hL5, hc5, hrest, hI5, hFr5, hE5, hbp5⟩ := hI5
    refine W_env _ hFr5 ?_
    have hz5 := hE5.1
    refine W_seq ?_
    refine W_region rfl ?_
    refine WO_p (PS_lss rfl rfl) ?_
    refine WO_nil ?_
    refine thn_normal ?_
    refine W_seq ?_
    refine W_if rfl (fun hb6 => ?_) (fun hb6 => ?_)
    · have hb6p := hb6.h; try simp only [al_ete, al_dfn, Bool.not_eq_true', Bool.not_eq_false', al_ne, Bool.not_not, al_nn] at hb6p
      obtain ⟨b', o', r', T', fz', hp', hb', hrs', hat'⟩ := (htB.ext hE5).at_ (by omega)
      subst hp'
      have hce' := hat' j (by omega)
      have hgy := gd_by (dg_by mm) j
      have hgm := gd_by hL5.2 (i + j)
      have hij : ((i : Int) + (j : Int)).toNat = i + j := by omega
      have hcm : Ce (ic .u8 M5) (0 + ((i : Int) + (j : Int)).toNat * 1) (.int .u8 (M5.getD (i + j) 0)) := by rw [hij]; exact ce_ic (by rw [hL5.1]; omega)
      obtain ⟨hxy0, hxy1⟩ := mul_byte hgb hgy
      have hst := mul_step hL5.2 hgb.1 (dg_by mm) (by rw [hL5.1]; omega) hI5 (s := (c : Int) + ((dg nn).getD i 0 * (dg mm).getD j 0 + M5.getD (i + j) 0)) rfl
      refine W_skip ?_
      refine thn_normal ?_
      refine W_seq ?_
      refine W_block ?_
      refine W_seq ?_
      refine W_region rfl ?_
      refine WO_p (PS_move_int rfl) ?_
      refine WO_p (PS_indexS Hvac.runUnderlying92 Hvac.sizeOf5 rfl rfl (by omega) (by omega)) ?_
      refine WO_load (.int _ _) Hvac.isAgg5 rfl (Hb.h (by repeat (first | assumption | exact Hb.newY _ _ | refine Hb.alloc ?_ | refine Hb.drew ?_ | refine Hb.ext (by assumption) ?_ | exact Hb.setSameL (by first | omega | (simp only [size_alloc, size_setB, size_drew]; omega)) | exact Hb.setSame (by assumption) | refine Hb.set (by first | omega | (simp only [size_alloc, size_setB, size_drew]; omega)) ?_ ))) (Ce.h (by first | assumption | exact ⟨rfl⟩)) ?_
      refine WO_p (PS_assign_int rfl) ?_
      refine WO_p (PS_assign_int rfl) ?_
      refine WO_nil ?_
      refine thn_normal ?_
      refine W_seq ?_
      refine W_region rfl ?_
      refine WO_p (PS_move_int rfl) ?_
      refine WO_p (PS_move_int rfl) ?_
      refine WO_p (PS_conv_u32n Hvac.runUnderlying5 Hvac.runUnderlying56 rfl (by omega) (by omega)) ?_
      refine WO_p (PS_move_int rfl) ?_
      refine WO_p (PS_conv_u32n Hvac.runUnderlying5 Hvac.runUnderlying56 rfl (by omega) (by omega)) ?_
      refine WO_p (PS_mul_u32n rfl rfl (by omega) (by omega)) ?_
      refine WO_p (PS_move_slice rfl) ?_
      refine WO_p (PS_move_int rfl) ?_
      refine WO_p (PS_move_int rfl) ?_
      refine WO_p (PS_add_i64n rfl rfl (by omega) (by omega)) ?_
      refine WO_p (PS_indexS Hvac.runUnderlying92 Hvac.sizeOf5 rfl rfl (by omega) (by omega)) ?_
      refine WO_load (.int _ _) Hvac.isAgg5 rfl (Hb.h (by repeat (first | assumption | exact Hb.newY _ _ | refine Hb.alloc ?_ | refine Hb.drew ?_ | refine Hb.ext (by assumption) ?_ | exact Hb.setSameL (by first | omega | (simp only [size_alloc, size_setB, size_drew]; omega)) | exact Hb.setSame (by assumption) | refine Hb.set (by first | omega | (simp only [size_alloc, size_setB, size_drew]; omega)) ?_ ))) (Ce.h (by first | assumption | exact ⟨rfl⟩)) ?_
      refine WO_p (PS_conv_u32n Hvac.runUnderlying5 Hvac.runUnderlying56 rfl (by omega) (by omega)) ?_
      refine WO_p (PS_add_u32n rfl rfl (by omega) (by omega)) ?_
      refine WO_p (PS_add_u32n rfl rfl (by omega) (by omega)) ?_
      refine WO_p (PS_assign_int rfl) ?_
      refine WO_nil ?_
      refine thn_normal ?_
      refine W_seq ?_
      refine W_region rfl ?_
      refine WO_p (PS_move_slice rfl) ?_
      refine WO_p (PS_move_int rfl) ?_
      refine WO_p (PS_move_int rfl) ?_
      refine WO_p (PS_add_i64n rfl rfl (by omega) (by omega)) ?_
      refine WO_p (PS_move_int rfl) ?_
      refine WO_p (PS_conv_u8w Hvac.runUnderlying56 Hvac.runUnderlying5 rfl) ?_
      refine WO_p (PS_indexS Hvac.runUnderlying92 Hvac.sizeOf5 rfl rfl (by omega) (by omega)) ?_
      refine WO_store1 Hvac.sizeOf5 rfl (v := .int _ _) rfl hbp5.h rfl (by rw [size_ic, hL5.1]; omega) rfl ?_
      rw [hij, ic_set]
      refine WO_nil ?_
      refine thn_normal ?_
      refine W_region rfl ?_
      refine WO_p (PS_move_int rfl) ?_
      refine WO_p (PS_shr_u32 8 rfl rfl (by decide) rfl) ?_
      refine WO_p (PS_assign_int rfl) ?_
      refine WO_nil ?_
      refine inBlk_normal ?_
      refine thn_normal ?_
      refine W_region rfl ?_
      refine WO_p (PS_add_i64n rfl rfl (by omega) (by omega)) ?_
      refine WO_p (PS_move_int rfl) ?_
      refine WO_nil ?_
      refine thn_normal ?_
      exact ⟨k5 - 1, by omega, j + 1, _, _, by omega, set_by hL5 (by omega), by omega, fun q hq => by rw [gd_set _ _ _ _ (by rw [hL5.1]; omega), if_neg (by omega)]; exact hrest q (by omega), hst, ⟨rfl, rfl, rfl, rfl, rfl, congrArg (Value.int .u32) (by omega), rfl, rfl, rfl, rfl, rfl, congrArg (Value.int .i64) (by omega), trivial⟩, Ext.setB hE5 (by omega) _, Hb.setSame hbp5⟩
    · have hb6p := hb6.h; try simp only [al_ete, al_dfn, Bool.not_eq_true', Bool.not_eq_false', al_ne, Bool.not_not, al_nn] at hb6p
      refine W_exit ?_
      refine thn_exit ?_
      refine thn_exit ?_
      refine inBlk_exit ?_
      refine thn_normal ?_
      refine W_region rfl ?_
      refine WO_p (PS_move_slice rfl) ?_
      refine WO_p (PS_move_int rfl) ?_
      refine WO_p (PS_move_slice rfl) ?_
      refine WO_p (PS_lenS Hvac.runUnderlying92 rfl) ?_
      refine WO_p (PS_add_i64n rfl rfl (by omega) (by omega)) ?_
      refine WO_p (PS_move_int rfl) ?_
      refine WO_p (PS_conv_u8n Hvac.runUnderlying56 Hvac.runUnderlying5 rfl (by omega) (by omega)) ?_
      refine WO_p (PS_indexS Hvac.runUnderlying92 Hvac.sizeOf5 rfl rfl (by omega) (by omega)) ?_
      refine WO_store1 Hvac.sizeOf5 rfl (v := .int _ _) rfl hbp5.h rfl (by rw [size_ic, hL5.1]; omega) rfl ?_
      rw [show ((i : Int) + (sz mm : Int)).toNat = i + sz mm by omega, ic_set]
      refine WO_nil ?_
      refine inBlk_normal ?_
      refine thn_normal ?_
      refine W_region rfl ?_
      refine WO_p (PS_add_i64n rfl rfl (by omega) (by omega)) ?_
      refine WO_p (PS_move_int rfl) ?_
      refine WO_nil ?_
      refine thn_normal ?_
      have hj0 : j = sz mm := by omega
      have e2 : (dg mm).take (sz mm) = dg mm := List.take_of_length_le (by rw [dg_len]; exact Nat.le_refl _)
      have hset := dv_set M5 (i + sz mm) (c : Int) (by rw [hL5.1]; omega)
      rw [hrest (i + sz mm) (by omega), hzM (i + sz mm) (Nat.le_refl _)] at hset
      rw [hj0, e2, dv_dg, hdM] at hI5
      exact ⟨k4 - 1, by omega, i + 1, _, by omega, set_by hL5 (by omega), fun q hq => by rw [gd_set _ _ _ _ (by rw [hL5.1]; omega), if_neg (by omega), hrest q (by omega)]; exact hzM q (by omega), by
        rw [dv_take1, Nat.add_mul, Nat.mul_assoc, ← hI5]
        simp only [Int.toNat_natCast, Int.toNat_zero, Nat.mul_zero, Nat.add_zero] at hset
        exact hset, ⟨rfl, rfl, rfl, rfl, rfl, congrArg (Value.int .i64) (by omega), trivial⟩, Ext.setB hE5 (by omega) _, Hb.setSame hbp5⟩
  · have hb4p := hb4.h; try simp only [al_ete, al_dfn, Bool.not_eq_true', Bool.not_eq_false', al_ne, Bool.not_not, al_nn] at hb4p
    refine W_exit ?_
    refine thn_exit ?_
    refine thn_exit ?_
    refine inBlk_exit ?_
    refine thn_normal ?_
    refine W_seq ?_
    refine W_region rfl ?_
    refine WO_p (PS_move_slice rfl) ?_
    refine WO_call Hvac.call87 (by rfl) (Ret.mono (clipX_spec (some ⟨b4, 0, none⟩, n1, n1) M _ (PB.newY hbp4 hfr hL.2 hL.1) (by show n1 ≤ _; omega)) ?_)
    rintro _ w9 ⟨hE9, s9, rfl, hs9⟩
    refine WO_p (PS_assign_slice rfl) ?_
    refine WO_nil ?_
    refine thn_normal ?_
    refine W_ret ?_
    refine bodyQ_ret1 Hvac.results26 rfl (.slice _ _ _) rfl ?_
    have hi0 : i = sz nn := by omega
    have e1 : (dg nn).take (sz nn) = dg nn := List.take_of_length_le (by rw [dg_len]; exact Nat.le_refl _)
    rw [hi0, e1, dv_dg] at hdM
    rw [hdM] at hs9
    exact ⟨(by repeat (first | assumption | exact Ext.refl _ | refine Ext.alloc ?_ _ | refine Ext.drew ?_ | refine Ext.setB ?_ (by first | omega | (simp only [size_alloc, size_setB, size_drew]; omega)) _ | refine Ext.trans ?_ (by assumption))), s9, rfl, hs9⟩

end Go.Proofs.YgvacwGreat
