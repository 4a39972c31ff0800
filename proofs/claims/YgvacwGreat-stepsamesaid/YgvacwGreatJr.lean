import Derived.Test.YgvacwGreatJq
namespace Go.Proofs.YgvacwGreat
set_option linter.unusedSimpArgs false
set_option linter.unusedVariables false
/-- the sum of the first y lanes of a column -/
def kcp (a : Nat → Bool) (x z : Nat) : Nat → Bool
  | 0 => false
  | y + 1 => kcp a x z y != a (kat x y z)
theorem kcp_kc (a : Nat → Bool) (x z : Nat) : kcp a x z 5 = kc a x z := by simp [kcp, kc]
def kG (a : Nat → Bool) (x y z i : Nat) : Bool := if i / 64 < x then kcp a (i / 64) (i % 64) 5 else if i / 64 = x then (if i % 64 < z then kcp a x (i % 64) (y + 1) else kcp a x (i % 64) y) else false
theorem kG_y (a : Nat → Bool) (x y i : Nat) : kG a x y 64 i = kG a x (y + 1) 0 i := by
  unfold kG
  rw [if_pos (show i % 64 < 64 by omega), if_neg (show ¬ i % 64 < 0 by omega)]
theorem kG_x (a : Nat → Bool) (x i : Nat) : kG a x 5 0 i = kG a (x + 1) 0 0 i := by
  unfold kG
  by_cases h1 : i / 64 < x
  · rw [if_pos h1, if_pos (by omega)]
  · rw [if_neg h1]
    by_cases h2 : i / 64 = x
    · rw [if_pos h2, if_pos (show i / 64 < x + 1 by omega), if_neg (show ¬ i % 64 < 0 by omega), h2]
    · rw [if_neg h2, if_neg (show ¬ i / 64 < x + 1 by omega)]
      split
      · rw [if_neg (show ¬ i % 64 < 0 by omega)]; rfl
      · rfl
theorem kG_z {a g g' : Nat → Bool} {x y z o : Nat} {v : Bool} (hz : z < 64) (ho : o = x * 64 + z) (hg : ∀ i, g i = kG a x y z i) (hv : v = (g (x * 64 + z) != a (kat x y z))) (hg' : ∀ i, g' i = if i = o then v else g i) (i : Nat) : g' i = kG a x y (z + 1) i := by
  subst ho
  rw [hg']
  by_cases h : i = x * 64 + z
  · rw [if_pos h, hv, hg]
    unfold kG
    rw [show (x * 64 + z) / 64 = x by omega, show (x * 64 + z) % 64 = z by omega, show i / 64 = x by omega, show i % 64 = z by omega, if_neg (by omega), if_pos rfl, if_neg (by omega), if_neg (by omega), if_pos rfl, if_pos (by omega)]
    rfl
  · rw [if_neg h, hg]
    unfold kG
    by_cases h1 : i / 64 < x
    · rw [if_pos h1, if_pos h1]
    · rw [if_neg h1, if_neg h1]
      by_cases h2 : i / 64 = x
      · rw [if_pos h2, if_pos h2]
        by_cases h3 : i % 64 < z
        · rw [if_pos h3, if_pos (by omega)]
        · rw [if_neg h3, if_neg (by omega)]
      · rw [if_neg h2, if_neg h2]
/-- bits are laid anew up to p -/
theorem upto_step {a f g g' : Nat → Bool} {p o : Nat} {v : Bool} (ho : o = p) (hg : ∀ i, g i = if i < p then f i else a i) (hv : v = f p) (hg' : ∀ i, g' i = if i = o then v else g i) (i : Nat) : g' i = if i < p + 1 then f i else a i := by
  subst ho
  rw [hg']
  by_cases h : i = o
  · rw [if_pos h, if_pos (by omega), hv, h]
  · rw [if_neg h, hg]
    by_cases h1 : i < o
    · rw [if_pos h1, if_pos (by omega)]
    · rw [if_neg h1, if_neg (by omega)]

set_option maxRecDepth 100000 in
set_option maxHeartbeats 2000000 in
theorem theta_ex (b : Nat) (T : TypeId) (a : Nat → Bool) (w : World) (hb : Hb w b (.cells (bc 1600 a) T (0, 0))) : Ret Hvac.prog 321 #[.pointer (some ⟨b, 0, none⟩)] w fun u w' => u = .tuple #[] ∧ BT b T 1600 w w' (kth a) := by
  have hbl := hb.lt
  refine Ret_of_W Hvac.func321 rfl rfl ?_
  refine W_seq ?_
  refine W_region rfl ?_
  refine WO_allocG Hvac.zeroValue359 ?_
  intro b2 v2 hg2 hE2 hH2 hl2
  try simp only [size_alloc, size_setB, size_drew] at hg2
  have hzz2 := hE2.1
  try simp only [size_alloc, size_setB, size_drew] at hzz2
  replace hH2 : Hb v2 b2 (.cells (bc 320 (fun _ => false)) 359 (0, 0)) := hH2
  refine WO_nil ?_
  refine thn_normal ?_
  refine W_seq ?_
  refine W_seq ?_
  refine W_region rfl ?_
  refine WO_p (PS_move_int rfl) ?_
  refine WO_nil ?_
  refine thn_normal ?_
  refine W_block ?_
  refine W_loopN (fun m ρ w' => ∃ (x : Nat) (g : Nat → Bool), x + m = 5 ∧ (∀ i, g i = kG a x 0 0 i) ∧ Fr [(0, .pointer (some ⟨b, 0, none⟩)), (2, .pointer (some ⟨b2, 0, none⟩)), (16, .int .i64 x)] ρ ∧ Ext w w' ∧ v2.heap.size ≤ w'.heap.size ∧ Hb w' b2 (.cells (bc 320 g) 359 (0, 0))) 5 ?_ ?_
  · exact ⟨0, fun _ => false, by omega, fun i => by unfold kG; rw [if_neg (by omega), if_neg (show ¬ i % 64 < 0 by omega)]; split <;> rfl, ⟨rfl, rfl, rfl, trivial⟩, (by repeat (first | assumption | exact Ext.refl _ | refine Ext.alloc ?_ _ | refine Ext.drew ?_ | refine Ext.setB ?_ (by first | omega | (simp only [size_alloc, size_setB, size_drew]; omega)) _ | refine Ext.trans ?_ (by assumption))), Nat.le_refl _, Hb.mk (Hb.h (by repeat (first | assumption | exact Hb.newY _ _ | refine Hb.alloc ?_ | refine Hb.drew ?_ | refine Hb.ext (by assumption) ?_ | exact Hb.setSameL (by first | omega | (simp only [size_alloc, size_setB, size_drew]; omega)) | exact Hb.setSame (by assumption) | refine Hb.set (by first | omega | (simp only [size_alloc, size_setB, size_drew]; omega)) ?_ )))⟩
  intro m ρ w3 hI
  obtain ⟨x, g, hxm, hg, hF, hE3, hz3, hc3⟩ := hI
  refine W_env _ hF ?_
  refine W_seq ?_
  refine W_region rfl ?_
  refine WO_p (PS_lss rfl rfl) ?_
  refine WO_nil ?_
  refine thn_normal ?_
  refine W_seq ?_
  refine W_if rfl (fun hb2 => ?_) (fun hb2 => ?_)
  · have hb2p := hb2.h; try simp only [al_ete, al_dfn, Bool.not_eq_true', Bool.not_eq_false', al_ne, Bool.not_not, al_nn] at hb2p
    refine W_skip ?_
    refine thn_normal ?_
    refine W_seq ?_
    refine W_block ?_
    refine W_seq ?_
    refine W_region rfl ?_
    refine WO_p (PS_move_int rfl) ?_
    refine WO_p (PS_assign_int rfl) ?_
    refine WO_nil ?_
    refine thn_normal ?_
    refine W_seq ?_
    refine W_region rfl ?_
    refine WO_p (PS_move_int rfl) ?_
    refine WO_nil ?_
    refine thn_normal ?_
    refine W_block ?_
    refine W_loopN (fun m ρ w' => ∃ (y : Nat) (g : Nat → Bool), y + m = 5 ∧ (∀ i, g i = kG a x y 0 i) ∧ Fr [(0, .pointer (some ⟨b, 0, none⟩)), (2, .pointer (some ⟨b2, 0, none⟩)), (3, .int .i64 x), (16, .int .i64 x), (19, .int .i64 y)] ρ ∧ Ext w w' ∧ v2.heap.size ≤ w'.heap.size ∧ Hb w' b2 (.cells (bc 320 g) 359 (0, 0))) 5 ?_ ?_
    · exact ⟨0, g, by omega, hg, ⟨rfl, rfl, rfl, rfl, rfl, trivial⟩, hE3, hz3, hc3⟩
    intro m5 ρ5 w5 hI
    obtain ⟨y, g5, hym, hg5, hF5, hE5, hz5, hc5⟩ := hI
    refine W_env _ hF5 ?_
    refine W_seq ?_
    refine W_region rfl ?_
    refine WO_p (PS_lss rfl rfl) ?_
    refine WO_nil ?_
    refine thn_normal ?_
    refine W_seq ?_
    refine W_if rfl (fun hb4 => ?_) (fun hb4 => ?_)
    · have hb4p := hb4.h; try simp only [al_ete, al_dfn, Bool.not_eq_true', Bool.not_eq_false', al_ne, Bool.not_not, al_nn] at hb4p
      refine W_skip ?_
      refine thn_normal ?_
      refine W_seq ?_
      refine W_block ?_
      refine W_seq ?_
      refine W_region rfl ?_
      refine WO_p (PS_move_int rfl) ?_
      refine WO_p (PS_assign_int rfl) ?_
      refine WO_nil ?_
      refine thn_normal ?_
      refine W_seq ?_
      refine W_region rfl ?_
      refine WO_p (PS_move_ptr rfl) ?_
      refine WO_p (PS_move_int rfl) ?_
      refine WO_p (PS_move_int rfl) ?_
      refine WO_p (PS_nilCheck rfl) ?_
      refine WO_p (PS_indexA Hvac.runUnderlying361 Hvac.sizeOf359 rfl rfl (by omega) (by omega)) ?_
      refine WO_p (PS_indexA Hvac.runUnderlying359 Hvac.sizeOf358 rfl rfl (by omega) (by omega)) ?_
      refine WO_p (PS_move_int rfl) ?_
      refine WO_nil ?_
      refine thn_normal ?_
      refine W_block ?_
      refine W_loopN (fun m ρ w' => ∃ (z : Nat) (g : Nat → Bool), z + m = 64 ∧ (∀ i, g i = kG a x y z i) ∧ Fr [(0, .pointer (some ⟨b, 0, none⟩)), (2, .pointer (some ⟨b2, 0, none⟩)), (3, .int .i64 x), (4, .int .i64 y), (16, .int .i64 x), (19, .int .i64 y), (27, .pointer (some ⟨b, 0 + ((x : Nat) : Int).toNat * 320 + ((y : Nat) : Int).toNat * 64, none⟩)), (28, .int .i64 z)] ρ ∧ Ext w w' ∧ v2.heap.size ≤ w'.heap.size ∧ Hb w' b2 (.cells (bc 320 g) 359 (0, 0))) 64 ?_ ?_
      · exact ⟨0, g5, by omega, hg5, ⟨rfl, rfl, rfl, rfl, rfl, rfl, rfl, rfl, trivial⟩, hE5, hz5, hc5⟩
      intro m7 ρ7 w7 hI
      obtain ⟨z, g7, hzm, hg7, hF7, hE7, hz7, hc7⟩ := hI
      refine W_env _ hF7 ?_
      have hb7 := hb.ext hE7
      refine W_seq ?_
      refine W_region rfl ?_
      refine WO_p (PS_lss rfl rfl) ?_
      refine WO_nil ?_
      refine thn_normal ?_
      refine W_seq ?_
      refine W_if rfl (fun hb6 => ?_) (fun hb6 => ?_)
      · have hb6p := hb6.h; try simp only [al_ete, al_dfn, Bool.not_eq_true', Bool.not_eq_false', al_ne, Bool.not_not, al_nn] at hb6p
        have hcea : Ce (bc 1600 a) (0 + ((x : Nat) : Int).toNat * 320 + ((y : Nat) : Int).toNat * 64 + ((z : Nat) : Int).toNat * 1) (.bool (a (kat x y z))) := by rw [show 0 + ((x : Nat) : Int).toNat * 320 + ((y : Nat) : Int).toNat * 64 + ((z : Nat) : Int).toNat * 1 = kat x y z by (try simp only [kat, Int.toNat_natCast]); omega]; exact ce_bc (by (try simp only [kat]); omega)
        have hcec : Ce (bc 320 g7) (0 + ((x : Nat) : Int).toNat * 64 + ((z : Nat) : Int).toNat * 1) (.bool (g7 (x * 64 + z))) := by rw [show 0 + ((x : Nat) : Int).toNat * 64 + ((z : Nat) : Int).toNat * 1 = x * 64 + z by (try simp only [kat, Int.toNat_natCast]); omega]; exact ce_bc (by (try simp only [kat]); omega)
        refine W_skip ?_
        refine thn_normal ?_
        refine W_seq ?_
        refine W_block ?_
        refine W_seq ?_
        refine W_drawE [false, false, false, false, false, false] hmix (by kernel_rfl) rfl ?_
        refine WH_p (PS_move_int rfl) rfl ?_
        refine WH_p (PS_nilCheck rfl) rfl ?_
        refine WH_p (PS_indexA Hvac.runUnderlying358 Hvac.sizeOf4 rfl rfl (by omega) (by omega)) rfl ?_
        refine WH_load (.bool _) Hvac.isAgg4 rfl (Hb.h (Hb.drew hb7)) (Ce.h hcea) ?_
        refine WH_p (PS_assign_int rfl) rfl ?_
        refine WH_p (PS_assign_bool rfl) rfl ?_
        refine WH_nil ?_
        refine thn_normal ?_
        refine W_drawE [false, false, false, false, false, false, false, false, false, false, false, false] hmix (by kernel_rfl) rfl ?_
        refine WH_p (PS_move_int rfl) rfl ?_
        refine WH_p (PS_move_int rfl) rfl ?_
        refine WH_p (PS_move_int rfl) rfl ?_
        refine WH_p (PS_move_int rfl) rfl ?_
        refine WH_p (PS_indexA Hvac.runUnderlying359 Hvac.sizeOf358 rfl rfl (by omega) (by omega)) rfl ?_
        refine WH_p (PS_indexA Hvac.runUnderlying358 Hvac.sizeOf4 rfl rfl (by omega) (by omega)) rfl ?_
        refine WH_load (.bool _) Hvac.isAgg4 rfl (Hb.h (Hb.drew (Hb.drew hc7))) (Ce.h hcec) ?_
        refine WH_p (PS_move_bool rfl) rfl ?_
        refine WH_p (PS_neqbool Hvac.underlying4 rfl rfl) rfl ?_
        refine WH_p (PS_indexA Hvac.runUnderlying359 Hvac.sizeOf358 rfl rfl (by omega) (by omega)) rfl ?_
        refine WH_p (PS_indexA Hvac.runUnderlying358 Hvac.sizeOf4 rfl rfl (by omega) (by omega)) rfl ?_
        refine WH_storeQ (n := 320) Hvac.sizeOf4 rfl rfl (Hb.mk (Hb.h (by repeat (first | assumption | exact Hb.newY _ _ | refine Hb.alloc ?_ | refine Hb.drew ?_ | refine Hb.ext (by assumption) ?_ | exact Hb.setSameL (by first | omega | (simp only [size_alloc, size_setB, size_drew]; omega)) | exact Hb.setSame (by assumption) | refine Hb.set (by first | omega | (simp only [size_alloc, size_setB, size_drew]; omega)) ?_ )))) (by simp only [Int.toNat_natCast]; omega) ?_
        intro w9 g9 hB9 hg9
        refine ⟨(fun h => by cases h), ?_⟩
        refine WH_nil ?_
        refine inBlk_normal ?_
        refine thn_normal ?_
        refine W_region rfl ?_
        refine WO_p (PS_add_i64n rfl rfl (by omega) (by omega)) ?_
        refine WO_p (PS_move_int rfl) ?_
        refine WO_nil ?_
        refine thn_normal ?_
        exact ⟨m7 - 1, by omega, z + 1, g9, by omega, kG_z (by omega) (by simp only [Int.toNat_natCast]; omega) hg7 rfl hg9, ⟨rfl, rfl, rfl, rfl, rfl, rfl, rfl, congrArg (Value.int .i64) (by omega), trivial⟩, hB9.ext0 (by repeat (first | assumption | exact Ext.refl _ | refine Ext.alloc ?_ _ | refine Ext.drew ?_ | refine Ext.setB ?_ (by first | omega | (simp only [size_alloc, size_setB, size_drew]; omega)) _ | refine Ext.trans ?_ (by assumption))) (by omega), by have := hB9.keep.sz; simp only [size_drew] at this; omega, hB9.hb⟩
      · have hb6p := hb6.h; try simp only [al_ete, al_dfn, Bool.not_eq_true', Bool.not_eq_false', al_ne, Bool.not_not, al_nn] at hb6p
        refine W_exit ?_
        refine thn_exit ?_
        refine thn_exit ?_
        refine inBlk_exit ?_
        refine inBlk_normal ?_
        refine thn_normal ?_
        refine W_region rfl ?_
        refine WO_p (PS_add_i64n rfl rfl (by omega) (by omega)) ?_
        refine WO_p (PS_move_int rfl) ?_
        refine WO_nil ?_
        refine thn_normal ?_
        exact ⟨m5 - 1, by omega, y + 1, g7, by omega, fun i => by rw [hg7, show z = 64 by omega]; exact kG_y a x y i, ⟨rfl, rfl, rfl, rfl, congrArg (Value.int .i64) (by omega), trivial⟩, hE7, hz7, hc7⟩
    · have hb4p := hb4.h; try simp only [al_ete, al_dfn, Bool.not_eq_true', Bool.not_eq_false', al_ne, Bool.not_not, al_nn] at hb4p
      refine W_exit ?_
      refine thn_exit ?_
      refine thn_exit ?_
      refine inBlk_exit ?_
      refine inBlk_normal ?_
      refine thn_normal ?_
      refine W_region rfl ?_
      refine WO_p (PS_add_i64n rfl rfl (by omega) (by omega)) ?_
      refine WO_p (PS_move_int rfl) ?_
      refine WO_nil ?_
      refine thn_normal ?_
      exact ⟨m - 1, by omega, x + 1, g5, by omega, fun i => by rw [hg5, show y = 5 by omega]; exact kG_x a x i, ⟨rfl, rfl, congrArg (Value.int .i64) (by omega), trivial⟩, hE5, hz5, hc5⟩
  · have hb2p := hb2.h; try simp only [al_ete, al_dfn, Bool.not_eq_true', Bool.not_eq_false', al_ne, Bool.not_not, al_nn] at hb2p
    refine W_exit ?_
    refine thn_exit ?_
    refine thn_exit ?_
    refine inBlk_exit ?_
    refine thn_normal ?_
    refine W_seq ?_
    refine W_region rfl ?_
    refine WO_p (PS_move_int rfl) ?_
    refine WO_nil ?_
    refine thn_normal ?_
    refine W_block ?_
    refine W_loopN (fun m ρ w' => ∃ (x2 : Nat) (ga : Nat → Bool), x2 + m = 5 ∧ (∀ i, ga i = if i < x2 * 320 then kth a i else a i) ∧ Fr [(0, .pointer (some ⟨b, 0, none⟩)), (2, .pointer (some ⟨b2, 0, none⟩)), (48, .int .i64 x2)] ρ ∧ BT b T 1600 w w' ga ∧ v2.heap.size ≤ w'.heap.size ∧ Hb w' b2 (.cells (bc 320 g) 359 (0, 0))) 5 ?_ ?_
    · exact ⟨0, a, by omega, fun i => by rw [if_neg (by omega)], ⟨rfl, rfl, rfl, trivial⟩, ⟨hb.ext hE3, hE3.keepO _⟩, hz3, hc3⟩
    intro mA ρA wA hI
    obtain ⟨x2, ga, hxA, hgA, hFA, hBA, hzA, hcA⟩ := hI
    refine W_env _ hFA ?_
    have hkg : ∀ i, i < 320 → g i = kc a (i / 64) (i % 64) := fun i hi => by rw [hg, show x = 5 by omega]; unfold kG; rw [if_pos (by omega), kcp_kc]
    have hbA := hBA.hb
    have hszA := hBA.keep.sz
    refine W_seq ?_
    refine W_region rfl ?_
    refine WO_p (PS_lss rfl rfl) ?_
    refine WO_nil ?_
    refine thn_normal ?_
    refine W_seq ?_
    refine W_if rfl (fun hb11 => ?_) (fun hb11 => ?_)
    · have hb11p := hb11.h; try simp only [al_ete, al_dfn, Bool.not_eq_true', Bool.not_eq_false', al_ne, Bool.not_not, al_nn] at hb11p
      refine W_skip ?_
      refine thn_normal ?_
      refine W_seq ?_
      refine W_block ?_
      refine W_seq ?_
      refine W_region rfl ?_
      refine WO_p (PS_move_int rfl) ?_
      refine WO_p (PS_assign_int rfl) ?_
      refine WO_nil ?_
      refine thn_normal ?_
      refine W_seq ?_
      refine W_region rfl ?_
      refine WO_p (PS_move_int rfl) ?_
      refine WO_p (PS_add_i64n rfl rfl (by omega) (by omega)) ?_
      refine WO_p (PS_rem_i64 rfl rfl (by omega) (by omega)) ?_
      refine WO_p (PS_indexA Hvac.runUnderlying359 Hvac.sizeOf358 rfl rfl (by omega) (by omega)) ?_
      refine WO_p (PS_assign_ptr rfl) ?_
      refine WO_nil ?_
      refine thn_normal ?_
      refine W_seq ?_
      refine W_region rfl ?_
      refine WO_p (PS_move_int rfl) ?_
      refine WO_p (PS_add_i64n rfl rfl (by omega) (by omega)) ?_
      refine WO_p (PS_rem_i64 rfl rfl (by omega) (by omega)) ?_
      refine WO_p (PS_indexA Hvac.runUnderlying359 Hvac.sizeOf358 rfl rfl (by omega) (by omega)) ?_
      refine WO_p (PS_assign_ptr rfl) ?_
      refine WO_nil ?_
      refine thn_normal ?_
      refine W_seq ?_
      refine W_region rfl ?_
      refine WO_allocG Hvac.zeroValue358 ?_
      intro b10 v10 hg10 hE10 hH10 hl10
      try simp only [size_alloc, size_setB, size_drew] at hg10
      have hzz10 := hE10.1
      try simp only [size_alloc, size_setB, size_drew] at hzz10
      replace hH10 : Hb v10 b10 (.cells (bc 64 (fun _ => false)) 358 (0, 0)) := hH10
      refine WO_nil ?_
      refine thn_normal ?_
      refine W_seq ?_
      refine W_seq ?_
      refine W_region rfl ?_
      refine WO_p (PS_move_int rfl) ?_
      refine WO_nil ?_
      refine thn_normal ?_
      refine W_block ?_
      refine W_loopN (fun m ρ w' => ∃ (z2 : Nat) (gd : Nat → Bool), z2 + m = 64 ∧ (∀ i, gd i = if i < z2 then kd a x2 i else false) ∧ Fr [(0, .pointer (some ⟨b, 0, none⟩)), (2, .pointer (some ⟨b2, 0, none⟩)), (7, .int .i64 x2), (8, .pointer (some ⟨b2, 0 + ((((x2 : Nat) : Int) + 4) % 5).toNat * 64, none⟩)), (9, .pointer (some ⟨b2, 0 + ((((x2 : Nat) : Int) + 1) % 5).toNat * 64, none⟩)), (10, .pointer (some ⟨b10, 0, none⟩)), (48, .int .i64 x2), (59, .int .i64 z2)] ρ ∧ BT b T 1600 w w' ga ∧ v10.heap.size ≤ w'.heap.size ∧ Hb w' b2 (.cells (bc 320 g) 359 (0, 0)) ∧ Hb w' b10 (.cells (bc 64 gd) 358 (0, 0))) 64 ?_ ?_
      · exact ⟨0, fun _ => false, by omega, fun i => by rw [if_neg (by omega)], ⟨rfl, rfl, rfl, rfl, rfl, rfl, rfl, rfl, trivial⟩, hBA.ext hE10, Nat.le_refl _, hcA.ext hE10, hH10⟩
      intro mB ρB wB hI
      obtain ⟨z2, gd, hzB, hgB, hFB, hBB, hzzB, hcB, hdB⟩ := hI
      refine W_env _ hFB ?_
      have hszB := hBB.keep.sz
      refine W_seq ?_
      refine W_region rfl ?_
      refine WO_p (PS_lss rfl rfl) ?_
      refine WO_nil ?_
      refine thn_normal ?_
      refine W_seq ?_
      refine W_if rfl (fun hb13 => ?_) (fun hb13 => ?_)
      · have hb13p := hb13.h; try simp only [al_ete, al_dfn, Bool.not_eq_true', Bool.not_eq_false', al_ne, Bool.not_not, al_nn] at hb13p
        have hcel : Ce (bc 320 g) (0 + ((((x2 : Nat) : Int) + 4) % 5).toNat * 64 + ((z2 : Nat) : Int).toNat * 1) (.bool (g ((x2 + 4) % 5 * 64 + z2))) := by rw [show 0 + ((((x2 : Nat) : Int) + 4) % 5).toNat * 64 + ((z2 : Nat) : Int).toNat * 1 = (x2 + 4) % 5 * 64 + z2 by (try simp only [kat, Int.toNat_natCast]); omega]; exact ce_bc (by (try simp only [kat]); omega)
        have hcer : Ce (bc 320 g) (0 + ((((x2 : Nat) : Int) + 1) % 5).toNat * 64 + ((((z2 : Nat) : Int) + 63) % 64).toNat * 1) (.bool (g ((x2 + 1) % 5 * 64 + (z2 + 63) % 64))) := by rw [show 0 + ((((x2 : Nat) : Int) + 1) % 5).toNat * 64 + ((((z2 : Nat) : Int) + 63) % 64).toNat * 1 = (x2 + 1) % 5 * 64 + (z2 + 63) % 64 by (try simp only [kat, Int.toNat_natCast]); omega]; exact ce_bc (by (try simp only [kat]); omega)
        have hkd1 : g ((x2 + 4) % 5 * 64 + z2) = kc a ((x2 + 4) % 5) z2 := by rw [hkg _ (by omega), show ((x2 + 4) % 5 * 64 + z2) / 64 = (x2 + 4) % 5 by omega, show ((x2 + 4) % 5 * 64 + z2) % 64 = z2 by omega]
        have hkd2 : g ((x2 + 1) % 5 * 64 + (z2 + 63) % 64) = kc a ((x2 + 1) % 5) ((z2 + 63) % 64) := by rw [hkg _ (by omega), show ((x2 + 1) % 5 * 64 + (z2 + 63) % 64) / 64 = (x2 + 1) % 5 by omega, show ((x2 + 1) % 5 * 64 + (z2 + 63) % 64) % 64 = (z2 + 63) % 64 by omega]
        refine W_skip ?_
        refine thn_normal ?_
        refine W_seq ?_
        refine W_block ?_
        refine W_seq ?_
        refine W_region rfl ?_
        refine WO_p (PS_move_int rfl) ?_
        refine WO_p (PS_assign_int rfl) ?_
        refine WO_nil ?_
        refine thn_normal ?_
        refine W_drawE [false, false, false, false, false, false, false, false, false, false, false, false, false, false, false, false] hmix (by kernel_rfl) rfl ?_
        refine WH_p (PS_move_int rfl) rfl ?_
        refine WH_p (PS_move_ptr rfl) rfl ?_
        refine WH_p (PS_move_int rfl) rfl ?_
        refine WH_p (PS_nilCheck rfl) rfl ?_
        refine WH_p (PS_indexA Hvac.runUnderlying358 Hvac.sizeOf4 rfl rfl (by omega) (by omega)) rfl ?_
        refine WH_load (.bool _) Hvac.isAgg4 rfl (Hb.h (Hb.drew hcB)) (Ce.h hcel) ?_
        refine WH_p (PS_move_ptr rfl) rfl ?_
        refine WH_p (PS_move_int rfl) rfl ?_
        refine WH_p (PS_add_i64n rfl rfl (by omega) (by omega)) rfl ?_
        refine WH_p (PS_rem_i64 rfl rfl (by omega) (by omega)) rfl ?_
        refine WH_p (PS_nilCheck rfl) rfl ?_
        refine WH_p (PS_indexA Hvac.runUnderlying358 Hvac.sizeOf4 rfl rfl (by omega) (by omega)) rfl ?_
        refine WH_load (.bool _) Hvac.isAgg4 rfl (Hb.h (Hb.drew hcB)) (Ce.h hcer) ?_
        refine WH_p (PS_neqbool Hvac.underlying4 rfl rfl) rfl ?_
        refine WH_p (PS_indexA Hvac.runUnderlying358 Hvac.sizeOf4 rfl rfl (by omega) (by omega)) rfl ?_
        refine WH_storeQ (n := 64) Hvac.sizeOf4 rfl rfl (Hb.mk (Hb.h (by repeat (first | assumption | exact Hb.newY _ _ | refine Hb.alloc ?_ | refine Hb.drew ?_ | refine Hb.ext (by assumption) ?_ | exact Hb.setSameL (by first | omega | (simp only [size_alloc, size_setB, size_drew]; omega)) | exact Hb.setSame (by assumption) | refine Hb.set (by first | omega | (simp only [size_alloc, size_setB, size_drew]; omega)) ?_ )))) (by simp only [Int.toNat_natCast]; omega) ?_
        intro w23 g23 hB23 hg23
        have hu23 : ∀ i, g23 i = if i < z2 + 1 then kd a x2 i else false := upto_step (a := fun _ => false) (f := kd a x2) (p := z2) (v := g ((x2 + 4) % 5 * 64 + z2) != g ((x2 + 1) % 5 * 64 + (z2 + 63) % 64)) (by simp only [Int.toNat_natCast]; omega) hgB (by rw [hkd1, hkd2]; rfl) hg23
        refine ⟨(fun h => by cases h), ?_⟩
        refine WH_nil ?_
        refine inBlk_normal ?_
        refine thn_normal ?_
        refine W_region rfl ?_
        refine WO_p (PS_add_i64n rfl rfl (by omega) (by omega)) ?_
        refine WO_p (PS_move_int rfl) ?_
        refine WO_nil ?_
        refine thn_normal ?_
        exact ⟨mB - 1, by omega, z2 + 1, g23, by omega, hu23, ⟨rfl, rfl, rfl, rfl, rfl, rfl, rfl, congrArg (Value.int .i64) (by omega), trivial⟩, ⟨hB23.other hBB.hb.drew (by omega), (hBB.keep.extR (Ext.drew (Ext.refl _))).trans hB23.keep (fun x hx e => by omega)⟩, by have := hB23.keep.sz; simp only [size_drew] at this; omega, hB23.other hcB.drew (by omega), hB23.hb⟩
      · have hb13p := hb13.h; try simp only [al_ete, al_dfn, Bool.not_eq_true', Bool.not_eq_false', al_ne, Bool.not_not, al_nn] at hb13p
        refine W_exit ?_
        refine thn_exit ?_
        refine thn_exit ?_
        refine inBlk_exit ?_
        refine thn_normal ?_
        refine W_seq ?_
        refine W_region rfl ?_
        refine WO_p (PS_move_int rfl) ?_
        refine WO_nil ?_
        refine thn_normal ?_
        refine W_block ?_
        refine W_loopN (fun m ρ w' => ∃ (y2 : Nat) (gC : Nat → Bool), y2 + m = 5 ∧ (∀ i, gC i = if i < x2 * 320 + y2 * 64 then kth a i else a i) ∧ Fr [(0, .pointer (some ⟨b, 0, none⟩)), (2, .pointer (some ⟨b2, 0, none⟩)), (7, .int .i64 x2), (10, .pointer (some ⟨b10, 0, none⟩)), (48, .int .i64 x2), (78, .int .i64 y2)] ρ ∧ BT b T 1600 w w' gC ∧ v10.heap.size ≤ w'.heap.size ∧ Hb w' b2 (.cells (bc 320 g) 359 (0, 0)) ∧ Hb w' b10 (.cells (bc 64 gd) 358 (0, 0))) 5 ?_ ?_
        · exact ⟨0, ga, by omega, fun i => by rw [hgA, show x2 * 320 + 0 * 64 = x2 * 320 by omega], ⟨rfl, rfl, rfl, rfl, rfl, rfl, trivial⟩, hBB, hzzB, hcB, hdB⟩
        intro mC ρC wC hI
        obtain ⟨y2, gC, hyC, hgC, hFC, hBC, hzzC, hcC, hdC⟩ := hI
        refine W_env _ hFC ?_
        have hszC := hBC.keep.sz
        have hgd : ∀ i, i < 64 → gd i = kd a x2 i := fun i hi => by rw [hgB, if_pos (by omega)]
        refine W_seq ?_
        refine W_region rfl ?_
        refine WO_p (PS_lss rfl rfl) ?_
        refine WO_nil ?_
        refine thn_normal ?_
        refine W_seq ?_
        refine W_if rfl (fun hb18 => ?_) (fun hb18 => ?_)
        · have hb18p := hb18.h; try simp only [al_ete, al_dfn, Bool.not_eq_true', Bool.not_eq_false', al_ne, Bool.not_not, al_nn] at hb18p
          refine W_skip ?_
          refine thn_normal ?_
          refine W_seq ?_
          refine W_block ?_
          refine W_seq ?_
          refine W_region rfl ?_
          refine WO_p (PS_move_int rfl) ?_
          refine WO_p (PS_assign_int rfl) ?_
          refine WO_nil ?_
          refine thn_normal ?_
          refine W_seq ?_
          refine W_region rfl ?_
          refine WO_p (PS_move_ptr rfl) ?_
          refine WO_p (PS_move_int rfl) ?_
          refine WO_p (PS_move_int rfl) ?_
          refine WO_p (PS_nilCheck rfl) ?_
          refine WO_p (PS_indexA Hvac.runUnderlying361 Hvac.sizeOf359 rfl rfl (by omega) (by omega)) ?_
          refine WO_p (PS_indexA Hvac.runUnderlying359 Hvac.sizeOf358 rfl rfl (by omega) (by omega)) ?_
          refine WO_p (PS_assign_ptr rfl) ?_
          refine WO_nil ?_
          refine thn_normal ?_
          refine W_seq ?_
          refine W_region rfl ?_
          refine WO_p (PS_move_int rfl) ?_
          refine WO_nil ?_
          refine thn_normal ?_
          refine W_block ?_
          refine W_loopN (fun m ρ w' => ∃ (z3 : Nat) (gD : Nat → Bool), z3 + m = 64 ∧ (∀ i, gD i = if i < x2 * 320 + y2 * 64 + z3 then kth a i else a i) ∧ Fr [(0, .pointer (some ⟨b, 0, none⟩)), (2, .pointer (some ⟨b2, 0, none⟩)), (7, .int .i64 x2), (10, .pointer (some ⟨b10, 0, none⟩)), (13, .pointer (some ⟨b, 0 + ((x2 : Nat) : Int).toNat * 320 + ((y2 : Nat) : Int).toNat * 64, none⟩)), (48, .int .i64 x2), (78, .int .i64 y2), (87, .int .i64 z3)] ρ ∧ BT b T 1600 w w' gD ∧ v10.heap.size ≤ w'.heap.size ∧ Hb w' b2 (.cells (bc 320 g) 359 (0, 0)) ∧ Hb w' b10 (.cells (bc 64 gd) 358 (0, 0))) 64 ?_ ?_
          · exact ⟨0, gC, by omega, fun i => by rw [hgC, Nat.add_zero], ⟨rfl, rfl, rfl, rfl, rfl, rfl, rfl, rfl, trivial⟩, hBC, hzzC, hcC, hdC⟩
          intro mD ρD wD hI
          obtain ⟨z3, gD, hzD, hgD, hFD, hBD, hzzD, hcD, hdD⟩ := hI
          refine W_env _ hFD ?_
          have hszD := hBD.keep.sz
          have hbD := hBD.hb
          refine W_seq ?_
          refine W_region rfl ?_
          refine WO_p (PS_lss rfl rfl) ?_
          refine WO_nil ?_
          refine thn_normal ?_
          refine W_seq ?_
          refine W_if rfl (fun hb20 => ?_) (fun hb20 => ?_)
          · have hb20p := hb20.h; try simp only [al_ete, al_dfn, Bool.not_eq_true', Bool.not_eq_false', al_ne, Bool.not_not, al_nn] at hb20p
            have hced : Ce (bc 64 gd) (0 + ((z3 : Nat) : Int).toNat * 1) (.bool (gd (z3))) := by rw [show 0 + ((z3 : Nat) : Int).toNat * 1 = z3 by (try simp only [kat, Int.toNat_natCast]); omega]; exact ce_bc (by (try simp only [kat]); omega)
            have hcea2 : Ce (bc 1600 gD) (0 + ((x2 : Nat) : Int).toNat * 320 + ((y2 : Nat) : Int).toNat * 64 + ((z3 : Nat) : Int).toNat * 1) (.bool (gD (kat x2 y2 z3))) := by rw [show 0 + ((x2 : Nat) : Int).toNat * 320 + ((y2 : Nat) : Int).toNat * 64 + ((z3 : Nat) : Int).toNat * 1 = kat x2 y2 z3 by (try simp only [kat, Int.toNat_natCast]); omega]; exact ce_bc (by (try simp only [kat]); omega)
            refine W_skip ?_
            refine thn_normal ?_
            refine W_seq ?_
            refine W_block ?_
            refine W_seq ?_
            refine W_drawE [false, false, false, false, false, false] hmix (by kernel_rfl) rfl ?_
            refine WH_p (PS_move_int rfl) rfl ?_
            refine WH_p (PS_nilCheck rfl) rfl ?_
            refine WH_p (PS_indexA Hvac.runUnderlying358 Hvac.sizeOf4 rfl rfl (by omega) (by omega)) rfl ?_
            refine WH_load (.bool _) Hvac.isAgg4 rfl (Hb.h (Hb.drew hdD)) (Ce.h hced) ?_
            refine WH_p (PS_assign_int rfl) rfl ?_
            refine WH_p (PS_assign_bool rfl) rfl ?_
            refine WH_nil ?_
            refine thn_normal ?_
            refine W_drawE [false, false, false, false, false, false, false, false, false, false, false, false] hmix (by kernel_rfl) rfl ?_
            refine WH_p (PS_move_ptr rfl) rfl ?_
            refine WH_p (PS_move_int rfl) rfl ?_
            refine WH_p (PS_move_ptr rfl) rfl ?_
            refine WH_p (PS_move_int rfl) rfl ?_
            refine WH_p (PS_nilCheck rfl) rfl ?_
            refine WH_p (PS_indexA Hvac.runUnderlying358 Hvac.sizeOf4 rfl rfl (by omega) (by omega)) rfl ?_
            refine WH_load (.bool _) Hvac.isAgg4 rfl (Hb.h (Hb.drew (Hb.drew hbD))) (Ce.h hcea2) ?_
            refine WH_p (PS_move_bool rfl) rfl ?_
            refine WH_p (PS_neqbool Hvac.underlying4 rfl rfl) rfl ?_
            refine WH_p (PS_nilCheck rfl) rfl ?_
            refine WH_p (PS_indexA Hvac.runUnderlying358 Hvac.sizeOf4 rfl rfl (by omega) (by omega)) rfl ?_
            refine WH_storeQ (n := 1600) Hvac.sizeOf4 rfl rfl (Hb.mk (Hb.h (by repeat (first | assumption | exact Hb.newY _ _ | refine Hb.alloc ?_ | refine Hb.drew ?_ | refine Hb.ext (by assumption) ?_ | exact Hb.setSameL (by first | omega | (simp only [size_alloc, size_setB, size_drew]; omega)) | exact Hb.setSame (by assumption) | refine Hb.set (by first | omega | (simp only [size_alloc, size_setB, size_drew]; omega)) ?_ )))) (by simp only [Int.toNat_natCast]; omega) ?_
            intro w32 g32 hB32 hg32
            have hu32 : ∀ i, g32 i = if i < x2 * 320 + y2 * 64 + (z3 + 1) then kth a i else a i := upto_step (f := kth a) (p := x2 * 320 + y2 * 64 + z3) (v := gD (kat x2 y2 z3) != gd z3) (by simp only [Int.toNat_natCast]; omega) hgD (by rw [hgD, if_neg (by unfold kat; omega), hgd z3 (by omega)]; have hq := kat_x (x := x2) (y := y2) (z := z3) (by omega) (by omega) (by omega); rw [show x2 * 320 + y2 * 64 + z3 = kat x2 y2 z3 by unfold kat; omega]; unfold kth; rw [hq.1, hq.2.2.1]) hg32
            refine ⟨(fun h => by cases h), ?_⟩
            refine WH_nil ?_
            refine inBlk_normal ?_
            refine thn_normal ?_
            refine W_region rfl ?_
            refine WO_p (PS_add_i64n rfl rfl (by omega) (by omega)) ?_
            refine WO_p (PS_move_int rfl) ?_
            refine WO_nil ?_
            refine thn_normal ?_
            exact ⟨mD - 1, by omega, z3 + 1, g32, by omega, hu32, ⟨rfl, rfl, rfl, rfl, rfl, rfl, rfl, congrArg (Value.int .i64) (by omega), trivial⟩, (hBD.ext (Ext.drew (Ext.drew (Ext.refl _)))).trans hB32, by have := hB32.keep.sz; simp only [size_drew] at this; omega, hB32.other hcD.drew.drew (by omega), hB32.other hdD.drew.drew (by omega)⟩
          · have hb20p := hb20.h; try simp only [al_ete, al_dfn, Bool.not_eq_true', Bool.not_eq_false', al_ne, Bool.not_not, al_nn] at hb20p
            refine W_exit ?_
            refine thn_exit ?_
            refine thn_exit ?_
            refine inBlk_exit ?_
            refine inBlk_normal ?_
            refine thn_normal ?_
            refine W_region rfl ?_
            refine WO_p (PS_add_i64n rfl rfl (by omega) (by omega)) ?_
            refine WO_p (PS_move_int rfl) ?_
            refine WO_nil ?_
            refine thn_normal ?_
            exact ⟨mC - 1, by omega, y2 + 1, gD, by omega, fun i => by rw [hgD, show z3 = 64 by omega, show x2 * 320 + y2 * 64 + 64 = x2 * 320 + (y2 + 1) * 64 by omega], ⟨rfl, rfl, rfl, rfl, rfl, congrArg (Value.int .i64) (by omega), trivial⟩, hBD, hzzD, hcD, hdD⟩
        · have hb18p := hb18.h; try simp only [al_ete, al_dfn, Bool.not_eq_true', Bool.not_eq_false', al_ne, Bool.not_not, al_nn] at hb18p
          refine W_exit ?_
          refine thn_exit ?_
          refine thn_exit ?_
          refine inBlk_exit ?_
          refine inBlk_normal ?_
          refine thn_normal ?_
          refine W_region rfl ?_
          refine WO_p (PS_add_i64n rfl rfl (by omega) (by omega)) ?_
          refine WO_p (PS_move_int rfl) ?_
          refine WO_nil ?_
          refine thn_normal ?_
          exact ⟨mA - 1, by omega, x2 + 1, gC, by omega, fun i => by rw [hgC, show y2 = 5 by omega, show x2 * 320 + 5 * 64 = (x2 + 1) * 320 by omega], ⟨rfl, rfl, congrArg (Value.int .i64) (by omega), trivial⟩, hBC, by omega, hcC⟩
    · have hb11p := hb11.h; try simp only [al_ete, al_dfn, Bool.not_eq_true', Bool.not_eq_false', al_ne, Bool.not_not, al_nn] at hb11p
      refine W_exit ?_
      refine thn_exit ?_
      refine thn_exit ?_
      refine inBlk_exit ?_
      first | refine bodyQ_ret0 Hvac.results321 ?_ | refine bodyQ_end0 Hvac.results321 ?_
      exact ⟨rfl, hBA.cg (fun i hi => by rw [hgA, if_pos (by omega)])⟩

end Go.Proofs.YgvacwGreat
