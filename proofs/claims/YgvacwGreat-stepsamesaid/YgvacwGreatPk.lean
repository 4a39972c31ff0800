import Derived.Test.YgvacwGreatPj
namespace Go.Proofs.YgvacwGreat
set_option linter.unusedSimpArgs false
set_option linter.unusedVariables false
/-! the arithmetic of naturals, as the specification calls it -/
section
variable [Om] {w : World} {p p' : Option Addr} {n c n' c' a b : Nat}
theorem NN.szl (h : NN w (p, n, c) a) : n = sz a := h.len
theorem nAdd_spec (hO : OmB w) (ha : NN w (p, n, c) a) (hb : NN w (p', n', c') b) (h1 : sz a ≤ 1000000) (h2 : sz b ≤ 1000000) :
    Ret Hvac.prog 24 #[.slice p n c, .slice p' n' c'] w fun u w' => Ext w w' ∧ ∃ s' : SV, u = .slice s'.1 s'.2.1 s'.2.2 ∧ NN w' s' (a + b) := by
  have := addX_spec (p, n, c) (p', n', c') (dg a) (dg b) w hO (PB.ab ha) (PB.ab hb) (by rw [ha.len]; omega) (by rw [hb.len]; omega)
  rwa [dv_dg, dv_dg] at this
theorem nMul_spec (hO : OmB w) (ha : NN w (p, n, c) a) (hb : NN w (p', n', c') b) (h1 : sz a ≤ 1000000) (h2 : sz b ≤ 1000000) :
    Ret Hvac.prog 26 #[.slice p n c, .slice p' n' c'] w fun u w' => Ext w w' ∧ ∃ s' : SV, u = .slice s'.1 s'.2.1 s'.2.2 ∧ NN w' s' (a * b) := by
  have := mulX_spec (p, n, c) (p', n', c') (dg a) (dg b) w hO (PB.ab ha) (PB.ab hb) (by rw [ha.len]; omega) (by rw [hb.len]; omega)
  rwa [dv_dg, dv_dg] at this
theorem nSub_spec (hO : OmB w) (ha : NN w (p, n, c) a) (hb : NN w (p', n', c') b) (h1 : sz a ≤ 1000000) (h2 : sz b ≤ 1000000) :
    Ret Hvac.prog 82 #[.slice p n c, .slice p' n' c'] w fun u w' => Ext w w' ∧ ∃ s' : SV, u = .tuple #[.slice s'.1 s'.2.1 s'.2.2, .bool (decide (b ≤ a))] ∧ NN w' s' (a - b) := by
  have := subX_spec (p, n, c) (p', n', c') (dg a) (dg b) w hO (PB.ab ha) (PB.ab hb) (by rw [ha.len]; omega) (by rw [hb.len]; omega)
  rwa [dv_dg, dv_dg] at this
theorem nDiv_spec (hO : OmB w) (ha : NN w (p, n, c) a) (hb : NN w (p', n', c') b) (h1 : sz a ≤ 1000000) (h2 : sz b ≤ 1000000) :
    Ret Hvac.prog 225 #[.slice p n c, .slice p' n' c'] w fun u w' => Ext w w' ∧ ∃ s1 s2 : SV, u = .tuple #[.slice s1.1 s1.2.1 s1.2.2, .slice s2.1 s2.2.1 s2.2.2, .bool (decide (b ≠ 0))] ∧ NN w' s1 (a / b) ∧ NN w' s2 (if b = 0 then 0 else a % b) := by
  have := divModX_spec (p, n, c) (p', n', c') (dg a) (dg b) w hO (PB.ab ha) (PB.ab hb) (by rw [ha.len]; omega) (by rw [hb.len]; omega)
  rwa [dv_dg, dv_dg] at this
theorem nCmp_spec (ha : NN w (p, n, c) a) (hb : NN w (p', n', c') b) (h1 : sz a ≤ 1000000) (h2 : sz b ≤ 1000000) :
    Ret Hvac.prog 76 #[.slice p n c, .slice p' n' c'] w fun u w' => Ext w w' ∧ u = .int .i8 (cmpI a b) := by
  have := cmpX_spec (p, n, c) (p', n', c') (dg a) (dg b) w (PB.ab ha) (PB.ab hb) (by rw [ha.len]; omega) (by rw [hb.len]; omega)
  rwa [dv_dg, dv_dg] at this
theorem nU64_spec (ha : NN w (p, n, c) a) (h1 : sz a ≤ 1000000) :
    Ret Hvac.prog 101 #[.slice p n c] w fun u w' => Ext w w' ∧ u = .tuple #[.int .u64 (if a < 18446744073709551616 then (a : Int) else 0), .bool (decide (a < 18446744073709551616))] := by
  have := u64X_spec (p, n, c) (dg a) w (PB.ab ha) (by rw [ha.len]; omega)
  rwa [dv_dg] at this
theorem nBE32_spec (ha : NN w (p, n, c) a) (h1 : sz a ≤ 1000000) :
    Ret Hvac.prog 102 #[.slice p n c] w fun u w' => Ext w w' ∧ u = .tuple #[.agg (ic .u8 (be32N a)), .bool (decide (a < 115792089237316195423570985008687907853269984665640564039457584007913129639936))] := by
  have := be32X_spec (p, n, c) (dg a) w (PB.ab ha) (by rw [ha.len]; omega)
  rwa [dv_dg] at this
theorem nNorm_spec (hO : OmB w) (ha : NN w (p, n, c) a) (h1 : sz a ≤ 1000000) :
    Ret Hvac.prog 79 #[.slice p n c] w fun u w' => Ext w w' ∧ ∃ s' : SV, u = .slice s'.1 s'.2.1 s'.2.2 ∧ NN w' s' a := by
  have := normX_spec (p, n, c) (dg a) w hO (PB.ab ha) (by rw [ha.len]; omega)
  rwa [dv_dg] at this
theorem nBit_spec {i : Nat} (ha : NN w (p, n, c) a) (h1 : sz a ≤ 1000000) (hi : i ≤ 65535) :
    Ret Hvac.prog 294 #[.slice p n c, .int .u16 i] w fun u w' => Ext w w' ∧ u = .bool (Nat.testBit a i) := by
  have := bitX_spec (p, n, c) (dg a) i w (PB.ab ha) (by rw [ha.len]; omega) hi
  rwa [dv_dg] at this
theorem nBE_spec {L : List Int} (hO : OmB w) (ha : AB w (p, n, c) L) (h1 : n ≤ 1000000) :
    Ret Hvac.prog 29 #[.slice p n c] w fun u w' => Ext w w' ∧ ∃ s' : SV, u = .slice s'.1 s'.2.1 s'.2.2 ∧ NN w' s' (bvY L) :=
  fromBEX_spec (p, n, c) L w hO ha (by show n ≤ _; omega)
theorem nNum_spec {x : Int} (hO : OmB w) (h : 0 ≤ x ∧ x ≤ 18446744073709551615) :
    Ret Hvac.prog 19 #[.int .u64 x] w fun u w' => Ext w w' ∧ ∃ s' : SV, u = .slice s'.1 s'.2.1 s'.2.2 ∧ NN w' s' x.toNat ∧ sz x.toNat ≤ 8 :=
  (num_spec x w hO h).mono (by rintro u w' ⟨h1, s, h2, h3⟩; exact ⟨h1, s, h2, h3, sz64 (by omega)⟩)
theorem nPow2_spec {k : Nat} (hO : OmB w) (h : k ≤ 65535) :
    Ret Hvac.prog 355 #[.int .u16 k] w fun u w' => Ext w w' ∧ ∃ s' : SV, u = .slice s'.1 s'.2.1 s'.2.2 ∧ NN w' s' (2 ^ k) ∧ sz (2 ^ k) = k / 8 + 1 :=
  (pow2X_spec k w hO h).mono (by rintro u w' ⟨h1, s, h2, h3⟩; exact ⟨h1, s, h2, h3, pow2_sz k⟩)
theorem NN.z_add {s : SV} (h : NN w s (a + b)) : sz (a + b) ≤ max (sz a) (sz b) + 1 := sz_add a b
theorem NN.z_mul {s : SV} (h : NN w s (a * b)) : sz (a * b) ≤ sz a + sz b := sz_mul a b
theorem NN.z_sub {s : SV} (h : NN w s (a - b)) : sz (a - b) ≤ sz a := sz_mono (Nat.sub_le _ _)
theorem NN.z_div {s : SV} (h : NN w s (a / b)) : sz (a / b) ≤ sz a := sz_mono (Nat.div_le_self _ _)
theorem NN.z_mod {s : SV} (h : NN w s (if b = 0 then 0 else a % b)) : sz (if b = 0 then 0 else a % b) ≤ sz b := by
  split
  · rw [sz_zero]; omega
  · rename_i h; exact sz_mono (Nat.le_of_lt (Nat.mod_lt _ (Nat.pos_of_ne_zero h)))
theorem NN.z_bv {s : SV} {L : List Int} (h : NN w s (bvY L)) (hL : ∀ x ∈ L, 0 ≤ x ∧ x ≤ 255) : sz (bvY L) ≤ L.length := sz_le (bv_lt hL)
end
theorem sz_sub (a b : Nat) : sz (a - b) ≤ sz a := sz_mono (Nat.sub_le _ _)
theorem sz_div (a b : Nat) : sz (a / b) ≤ sz a := sz_mono (Nat.div_le_self _ _)
theorem sz_mod (a b : Nat) : sz (if b = 0 then 0 else a % b) ≤ sz b ∧ sz (if b = 0 then 0 else a % b) ≤ sz a := by
  split
  · rw [sz_zero]; omega
  · rename_i h; exact ⟨sz_mono (Nat.le_of_lt (Nat.mod_lt _ (Nat.pos_of_ne_zero h))), sz_mono (Nat.mod_le _ _)⟩
theorem sz_bv {L : List Int} (h : ∀ x ∈ L, 0 ≤ x ∧ x ≤ 255) : sz (bvY L) ≤ L.length := sz_le (bv_lt h)
end Go.Proofs.YgvacwGreat
