import Derived.Test.YgvacwGreatJs
namespace Go.Proofs.YgvacwGreat
set_option linter.unusedSimpArgs false
set_option linter.unusedVariables false
def kinv (j : Nat) : Nat := 64 * (5 * (j / 64 % 5) + j / 320) + j % 64
theorem kinv_kat {i : Nat} (hi : i < 1600) : kinv (kat (i / 64 % 5) (i / 320) (i % 64)) = i := by
  obtain ⟨e1, e2, e3, e4, e5⟩ := kat_x (x := i / 64 % 5) (y := i / 320) (z := i % 64) (by omega) (by omega) (by omega)
  unfold kinv
  rw [e1, e2, e3]
  have h1 : i / 320 = i / 64 / 5 := by omega
  rw [h1]
  omega
theorem kat_kinv {j : Nat} (hj : j < 1600) : kat (kinv j / 64 % 5) (kinv j / 320) (kinv j % 64) = j := by
  have e1 : kinv j / 64 = 5 * (j / 64 % 5) + j / 320 := by unfold kinv; omega
  have e2 : kinv j % 64 = j % 64 := by unfold kinv; omega
  have e3 : kinv j / 320 = kinv j / 64 / 5 := by omega
  rw [e3, e1, e2]
  have h1 : j / 320 = j / 64 / 5 := by omega
  have h2 : j / 320 < 5 := by omega
  unfold kat
  rw [show (5 * (j / 64 % 5) + j / 320) / 5 = j / 64 % 5 by omega, show (5 * (j / 64 % 5) + j / 320) % 5 = j / 320 by omega, h1]
  omega
theorem kin_step {s ga g' : Nat → Bool} {i o : Nat} {v : Bool} (hi : i < 1600) (ho : o = kat (i / 64 % 5) (i / 320) (i % 64)) (hg : ∀ j, j < 1600 → ga j = if kinv j < i then s (kinv j) else false) (hv : v = s i) (hg' : ∀ j, g' j = if j = o then v else ga j) (j : Nat) (hj : j < 1600) : g' j = if kinv j < i + 1 then s (kinv j) else false := by
  rw [hg']
  by_cases h : j = o
  · have e : kinv j = i := by rw [h, ho]; exact kinv_kat hi
    rw [if_pos h, e, if_pos (by omega), hv]
  · have e : kinv j ≠ i := by
      intro e
      apply h
      rw [ho, ← e]
      exact (kat_kinv hj).symm
    rw [if_neg h, hg j hj]
    by_cases h1 : kinv j < i
    · rw [if_pos h1, if_pos (by omega)]
    · rw [if_neg h1, if_neg (by omega)]
theorem kinv_lt {j : Nat} (hj : j < 1600) : kinv j < 1600 := by unfold kinv; omega

set_option maxRecDepth 100000 in
set_option maxHeartbeats 2000000 in
theorem kF_ex (b : Nat) (T : TypeId) (s : Nat → Bool) (w : World) (hb : Hb w b (.cells (bc 1600 s) T (0, 0))) : Ret Hvac.prog 224 #[.pointer (some ⟨b, 0, none⟩)] w fun u w' => u = .tuple #[] ∧ BT b T 1600 w w' (kFn s) := by
  have hbl := hb.lt
  refine Ret_of_W Hvac.func224 rfl rfl ?_
  refine W_seq ?_
  refine W_seq ?_
  refine W_region rfl ?_
  refine WO_p (PS_move_ptr rfl) ?_
  refine WO_p (PS_eqlnil Hvac.underlying294 rfl) ?_
  refine WO_nil ?_
  refine thn_normal ?_
  refine W_if rfl (fun hb2 => ?_) (fun hb2 => ?_)
  · have hb2p := hb2.h; try simp only [al_ete, al_dfn, Bool.not_eq_true', Bool.not_eq_false', al_ne, Bool.not_not, al_nn] at hb2p
    simp at hb2p --END
  · have hb2p := hb2.h; try simp only [al_ete, al_dfn, Bool.not_eq_true', Bool.not_eq_false', al_ne, Bool.not_not, al_nn] at hb2p
    refine W_skip ?_
    refine thn_normal ?_
    refine W_seq ?_
    refine W_region rfl ?_
    refine WO_allocG Hvac.zeroValue361 ?_
    intro b2 v2 hg2 hE2 hH2 hl2
    try simp only [size_alloc, size_setB, size_drew] at hg2
    have hzz2 := hE2.1
    try simp only [size_alloc, size_setB, size_drew] at hzz2
    replace hH2 : Hb v2 b2 (.cells (bc 1600 (fun _ => false)) 361 (0, 0)) := hH2
    refine WO_nil ?_
    refine thn_normal ?_
    refine W_seq ?_
    refine W_seq ?_
    refine W_region rfl ?_
    refine WO_p (PS_move_ptr rfl) ?_
    refine WO_p (PS_move_int rfl) ?_
    refine WO_nil ?_
    refine thn_normal ?_
    refine W_block ?_
    refine W_loopN (fun m ρ w' => ∃ (i : Nat) (ga : Nat → Bool), i + m = 1600 ∧ (∀ j, j < 1600 → ga j = if kinv j < i then s (kinv j) else false) ∧ Fr [(0, .pointer (some ⟨b, 0, none⟩)), (2, .pointer (some ⟨b2, 0, none⟩)), (11, .pointer (some ⟨b, 0, none⟩)), (12, .int .i64 i)] ρ ∧ Ext w w' ∧ v2.heap.size ≤ w'.heap.size ∧ Hb w' b2 (.cells (bc 1600 ga) 361 (0, 0))) 1600 ?_ ?_
    · exact ⟨0, fun _ => false, by omega, fun j _ => by rw [if_neg (by omega)], ⟨rfl, rfl, rfl, rfl, trivial⟩, (by repeat (first | assumption | exact Ext.refl _ | refine Ext.alloc ?_ _ | refine Ext.drew ?_ | refine Ext.setB ?_ (by first | omega | (simp only [size_alloc, size_setB, size_drew]; omega)) _ | refine Ext.trans ?_ (by assumption))), Nat.le_refl _, Hb.mk (Hb.h (by repeat (first | assumption | exact Hb.newY _ _ | refine Hb.alloc ?_ | refine Hb.drew ?_ | refine Hb.ext (by assumption) ?_ | exact Hb.setSameL (by first | omega | (simp only [size_alloc, size_setB, size_drew]; omega)) | exact Hb.setSame (by assumption) | refine Hb.set (by first | omega | (simp only [size_alloc, size_setB, size_drew]; omega)) ?_ )))⟩
    intro m ρ w3 hI
    obtain ⟨i, ga, him, hga, hF, hE3, hz3, hc3⟩ := hI
    refine W_env _ hF ?_
    have hb3 := hb.ext hE3
    refine W_seq ?_
    refine W_region rfl ?_
    refine WO_p (PS_lss rfl rfl) ?_
    refine WO_nil ?_
    refine thn_normal ?_
    refine W_seq ?_
    refine W_if rfl (fun hb4 => ?_) (fun hb4 => ?_)
    · have hb4p := hb4.h; try simp only [al_ete, al_dfn, Bool.not_eq_true', Bool.not_eq_false', al_ne, Bool.not_not, al_nn] at hb4p
      have hces : Ce (bc 1600 s) (0 + ((i : Nat) : Int).toNat * 1) (.bool (s (i))) := by rw [show 0 + ((i : Nat) : Int).toNat * 1 = i by (try simp only [kat, Int.toNat_natCast]); omega]; exact ce_bc (by (try simp only [kat]); omega)
      refine W_skip ?_
      refine thn_normal ?_
      refine W_seq ?_
      refine W_block ?_
      refine W_seq ?_
      refine W_drawE [false, false, false, false, false, false] hmix (by kernel_rfl) rfl ?_
      refine WH_p (PS_move_int rfl) rfl ?_
      refine WH_p (PS_nilCheck rfl) rfl ?_
      refine WH_p (PS_indexA Hvac.runUnderlying292 Hvac.sizeOf4 rfl rfl (by omega) (by omega)) rfl ?_
      refine WH_load (.bool _) Hvac.isAgg4 rfl (Hb.h (Hb.drew hb3)) (Ce.h hces) ?_
      refine WH_p (PS_assign_int rfl) rfl ?_
      refine WH_p (PS_assign_bool rfl) rfl ?_
      refine WH_nil ?_
      refine thn_normal ?_
      refine W_region rfl ?_
      refine WO_p (PS_move_int rfl) ?_
      refine WO_p (PS_quo_i64 rfl rfl (by omega) (by omega) (by omega)) ?_
      refine WO_p (PS_rem_i64 rfl rfl (by omega) (by omega)) ?_
      refine WO_p (PS_move_int rfl) ?_
      refine WO_p (PS_quo_i64 rfl rfl (by omega) (by omega) (by omega)) ?_
      refine WO_p (PS_move_int rfl) ?_
      refine WO_p (PS_rem_i64 rfl rfl (by omega) (by omega)) ?_
      refine WO_p (PS_move_bool rfl) ?_
      refine WO_p (PS_indexA Hvac.runUnderlying361 Hvac.sizeOf359 rfl rfl (by omega) (by omega)) ?_
      refine WO_p (PS_indexA Hvac.runUnderlying359 Hvac.sizeOf358 rfl rfl (by omega) (by omega)) ?_
      refine WO_p (PS_indexA Hvac.runUnderlying358 Hvac.sizeOf4 rfl rfl (by omega) (by omega)) ?_
      refine WO_storeQ (n := 1600) Hvac.sizeOf4 rfl rfl (Hb.drew hc3) (by omega) ?_
      intro w5 g5 hB5 hg5
      have hzz5 := hB5.keep.sz
      simp only [size_drew] at hzz5
      have hE5 : Ext w w5 := hB5.ext0 (hE3.trans (Ext.drew (Ext.refl _))) (by omega)
      have hz5 : v2.heap.size ≤ w5.heap.size := by omega
      have hc5 := hB5.hb
      have hu5 := kin_step (s := s) (i := i) (by omega) (by unfold kat; omega) hga rfl hg5
      refine WO_nil ?_
      refine inBlk_normal ?_
      refine thn_normal ?_
      refine W_region rfl ?_
      refine WO_p (PS_add_i64n rfl rfl (by omega) (by omega)) ?_
      refine WO_p (PS_move_int rfl) ?_
      refine WO_nil ?_
      refine thn_normal ?_
      exact ⟨m - 1, by omega, i + 1, g5, by omega, hu5, ⟨rfl, rfl, rfl, congrArg (Value.int .i64) (by omega), trivial⟩, hE5, hz5, hc5⟩
    · have hb4p := hb4.h; try simp only [al_ete, al_dfn, Bool.not_eq_true', Bool.not_eq_false', al_ne, Bool.not_not, al_nn] at hb4p
      refine W_exit ?_
      refine thn_exit ?_
      refine thn_exit ?_
      refine inBlk_exit ?_
      refine thn_normal ?_
      refine W_seq ?_
      refine W_seq ?_
      refine W_region rfl ?_
      refine WO_p (PS_assign_int rfl) ?_
      refine WO_nil ?_
      refine thn_normal ?_
      refine W_block ?_
      refine W_loopN (fun m ρ w' => ∃ (r : Nat), r + m = 24 ∧ Fr [(0, .pointer (some ⟨b, 0, none⟩)), (2, .pointer (some ⟨b2, 0, none⟩)), (5, .int .u8 r)] ρ ∧ Ext w w' ∧ v2.heap.size ≤ w'.heap.size ∧ Hb w' b2 (.cells (bc 1600 (krounds (kin s) r)) 361 (0, 0))) 24 ?_ ?_
      · exact ⟨0, by omega, ⟨rfl, rfl, rfl, trivial⟩, hE3, hz3, by rw [← bc_congr (n := 1600) (g := ga) (fun j hj => by rw [hga j hj, if_pos (by have := kinv_lt hj; omega)]; rfl)]; exact hc3⟩
      intro mA ρA wA hI
      obtain ⟨r, hrA, hFA, hEA, hzA, hcA⟩ := hI
      refine W_env _ hFA ?_
      refine W_seq ?_
      refine W_seq ?_
      refine W_region rfl ?_
      refine WO_p (PS_move_int rfl) ?_
      refine WO_p (PS_lss rfl rfl) ?_
      refine WO_nil ?_
      refine thn_normal ?_
      refine W_if rfl (fun hb7 => ?_) (fun hb7 => ?_)
      · have hb7p := hb7.h; try simp only [al_ete, al_dfn, Bool.not_eq_true', Bool.not_eq_false', al_ne, Bool.not_not, al_nn] at hb7p
        refine W_skip ?_
        refine thn_normal ?_
        refine W_seq ?_
        refine W_block ?_
        refine W_seq ?_
        refine W_region rfl ?_
        refine WO_call Hvac.call321 (by rfl) (Ret.mono (theta_ex b2 361 (krounds (kin s) r) _ hcA) ?_)
        rintro _ w10 ⟨rfl, hB10⟩
        have hz10 := hB10.keep.sz
        have hE10 : Ext w w10 := hB10.ext0 hEA (by omega)
        have hc10 := hB10.hb
        refine WO_nil ?_
        refine thn_normal ?_
        refine W_seq ?_
        refine W_region rfl ?_
        refine WO_call Hvac.call322 (by rfl) (Ret.mono (rho_ex b2 361 _ _ hc10) ?_)
        rintro _ w11 ⟨hE11, rfl⟩
        have hz11 := hE11.1
        have hc11 := hc10.ext hE11
        refine WO_allocG Hvac.zeroValue361 ?_
        intro b6 v6 hg6 hE6 hH6 hl6
        try simp only [size_alloc, size_setB, size_drew] at hg6
        have hzz6 := hE6.1
        try simp only [size_alloc, size_setB, size_drew] at hzz6
        replace hH6 : Hb v6 b6 (.cells (bc 1600 (fun _ => false)) 361 (0, 0)) := hH6
        refine WO_storeW Hvac.sizeOf361 rfl (v := .agg _) rfl (Hb.h hH6) rfl (by simp only [Value.cells, size_bc]) (by rw [size_bc]) oneCell_bc ?_
        have hn6 : Hb _ b6 (.cells (bc 1600 (krho (kth (krounds (kin s) r)))) 361 (0, 0)) := Hb.setSame hH6
        refine WO_nil ?_
        refine thn_normal ?_
        refine W_seq ?_
        refine W_region rfl ?_
        refine WO_call Hvac.call323 (by rfl) (Ret.mono (pi_ex b6 361 _ _ hn6) ?_)
        rintro _ w12 ⟨hE12, rfl⟩
        have hz12 := hE12.1
        try simp only [size_setB] at hz12
        refine WO_allocG Hvac.zeroValue361 ?_
        intro b7 v7 hg7 hE7 hH7 hl7
        try simp only [size_alloc, size_setB, size_drew] at hg7
        have hzz7 := hE7.1
        try simp only [size_alloc, size_setB, size_drew] at hzz7
        replace hH7 : Hb v7 b7 (.cells (bc 1600 (fun _ => false)) 361 (0, 0)) := hH7
        refine WO_storeW Hvac.sizeOf361 rfl (v := .agg _) rfl (Hb.h hH7) rfl (by simp only [Value.cells, size_bc]) (by rw [size_bc]) oneCell_bc ?_
        have hn7 : Hb _ b7 (.cells (bc 1600 (kpi (krho (kth (krounds (kin s) r))))) 361 (0, 0)) := Hb.setSame hH7
        refine WO_nil ?_
        refine thn_normal ?_
        refine W_seq ?_
        refine W_region rfl ?_
        refine WO_call Hvac.call324 (by rfl) (Ret.mono (chi_ex b7 361 _ _ hn7) ?_)
        rintro _ w13 ⟨hE13, rfl⟩
        have hz13 := hE13.1
        try simp only [size_setB] at hz13
        have hc13 : Hb w13 b2 (.cells (bc 1600 (kth (krounds (kin s) r))) 361 (0, 0)) := Hb.mk (Hb.h (by repeat (first | assumption | exact Hb.newY _ _ | refine Hb.alloc ?_ | refine Hb.drew ?_ | refine Hb.ext (by assumption) ?_ | exact Hb.setSameL (by first | omega | (simp only [size_alloc, size_setB, size_drew]; omega)) | exact Hb.setSame (by assumption) | refine Hb.set (by first | omega | (simp only [size_alloc, size_setB, size_drew]; omega)) ?_ )))
        refine WO_storeW Hvac.sizeOf361 rfl (v := .agg _) rfl (Hb.h hc13) rfl (by simp only [Value.cells, size_bc]) (by rw [size_bc]) oneCell_bc ?_
        have hn2 : Hb _ b2 (.cells (bc 1600 (kchi (kpi (krho (kth (krounds (kin s) r)))))) 361 (0, 0)) := Hb.setSame hc13
        refine WO_nil ?_
        refine thn_normal ?_
        refine W_region rfl ?_
        refine WO_p (PS_move_int rfl) ?_
        refine WO_call Hvac.call325 (by rfl) (Ret.mono (iota_ex b2 361 _ r _ hn2 (by omega)) ?_)
        rintro _ w14 ⟨rfl, hB14⟩
        have hz14 := hB14.keep.sz
        try simp only [size_setB] at hz14
        have hE14 : Ext w w14 := hB14.ext0 (by repeat (first | assumption | exact Ext.refl _ | refine Ext.alloc ?_ _ | refine Ext.drew ?_ | refine Ext.setB ?_ (by first | omega | (simp only [size_alloc, size_setB, size_drew]; omega)) _ | exact Ext.trans (by assumption) (by assumption) | refine Ext.trans ?_ (by assumption))) (by omega)
        refine WO_nil ?_
        refine inBlk_normal ?_
        refine thn_normal ?_
        refine W_region rfl ?_
        refine WO_p (PS_move_int rfl) ?_
        refine WO_p (PS_add_u8n rfl rfl (by omega) (by omega)) ?_
        refine WO_p (PS_assign_int rfl) ?_
        refine WO_nil ?_
        refine thn_normal ?_
        exact ⟨mA - 1, by omega, r + 1, by omega, ⟨rfl, rfl, congrArg (Value.int .u8) (by omega), trivial⟩, hE14, by omega, hB14.hb⟩
      · have hb7p := hb7.h; try simp only [al_ete, al_dfn, Bool.not_eq_true', Bool.not_eq_false', al_ne, Bool.not_not, al_nn] at hb7p
        refine W_exit ?_
        refine thn_exit ?_
        refine thn_exit ?_
        refine inBlk_exit ?_
        refine thn_normal ?_
        refine W_seq ?_
        refine W_region rfl ?_
        refine WO_p (PS_move_int rfl) ?_
        refine WO_nil ?_
        refine thn_normal ?_
        refine W_block ?_
        refine W_loopN (fun m ρ w' => ∃ (i2 : Nat) (gs : Nat → Bool), i2 + m = 1600 ∧ (∀ j, gs j = if j < i2 then kout (krounds (kin s) 24) j else s j) ∧ Fr [(0, .pointer (some ⟨b, 0, none⟩)), (2, .pointer (some ⟨b2, 0, none⟩)), (40, .int .i64 i2)] ρ ∧ BT b T 1600 w w' gs ∧ v2.heap.size ≤ w'.heap.size ∧ Hb w' b2 (.cells (bc 1600 (krounds (kin s) 24)) 361 (0, 0))) 1600 ?_ ?_
        · exact ⟨0, s, by omega, fun j => by rw [if_neg (by omega)], ⟨rfl, rfl, rfl, trivial⟩, ⟨hb.ext hEA, hEA.keepO _⟩, hzA, by rw [show (24 : Nat) = r by omega]; exact hcA⟩
        intro mB ρB wB hI
        obtain ⟨i2, gs, hiB, hgs, hFB, hBB, hzB, hcB⟩ := hI
        refine W_env _ hFB ?_
        have hszB := hBB.keep.sz
        have hbB := hBB.hb
        refine W_seq ?_
        refine W_region rfl ?_
        refine WO_p (PS_lss rfl rfl) ?_
        refine WO_nil ?_
        refine thn_normal ?_
        refine W_seq ?_
        refine W_if rfl (fun hb14 => ?_) (fun hb14 => ?_)
        · have hb14p := hb14.h; try simp only [al_ete, al_dfn, Bool.not_eq_true', Bool.not_eq_false', al_ne, Bool.not_not, al_nn] at hb14p
          have hcea : Ce (bc 1600 (krounds (kin s) 24)) (0 + (((i2 : Nat) : Int) / 64 % 5).toNat * 320 + (((i2 : Nat) : Int) / 320).toNat * 64 + (((i2 : Nat) : Int) % 64).toNat * 1) (.bool ((krounds (kin s) 24) (kat (i2 / 64 % 5) (i2 / 320) (i2 % 64)))) := by rw [show 0 + (((i2 : Nat) : Int) / 64 % 5).toNat * 320 + (((i2 : Nat) : Int) / 320).toNat * 64 + (((i2 : Nat) : Int) % 64).toNat * 1 = kat (i2 / 64 % 5) (i2 / 320) (i2 % 64) by (try simp only [kat, Int.toNat_natCast]); omega]; exact ce_bc (by (try simp only [kat]); omega)
          refine W_skip ?_
          refine thn_normal ?_
          refine W_seq ?_
          refine W_block ?_
          refine W_seq ?_
          refine W_region rfl ?_
          refine WO_p (PS_move_int rfl) ?_
          refine WO_p (PS_assign_int rfl) ?_
          refine WO_nil ?_
          refine thn_normal ?_
          refine W_drawE [false, false, false, false, false, false, false, false, false, false, false, false, false, false, false, false] hmix (by kernel_rfl) rfl ?_
          refine WH_p (PS_move_ptr rfl) rfl ?_
          refine WH_p (PS_move_int rfl) rfl ?_
          refine WH_p (PS_move_int rfl) rfl ?_
          refine WH_p (PS_quo_i64 rfl rfl (by omega) (by omega) (by omega)) rfl ?_
          refine WH_p (PS_rem_i64 rfl rfl (by omega) (by omega)) rfl ?_
          refine WH_p (PS_move_int rfl) rfl ?_
          refine WH_p (PS_quo_i64 rfl rfl (by omega) (by omega) (by omega)) rfl ?_
          refine WH_p (PS_move_int rfl) rfl ?_
          refine WH_p (PS_rem_i64 rfl rfl (by omega) (by omega)) rfl ?_
          refine WH_p (PS_indexA Hvac.runUnderlying361 Hvac.sizeOf359 rfl rfl (by omega) (by omega)) rfl ?_
          refine WH_p (PS_indexA Hvac.runUnderlying359 Hvac.sizeOf358 rfl rfl (by omega) (by omega)) rfl ?_
          refine WH_p (PS_indexA Hvac.runUnderlying358 Hvac.sizeOf4 rfl rfl (by omega) (by omega)) rfl ?_
          refine WH_load (.bool _) Hvac.isAgg4 rfl (Hb.h (Hb.drew hcB)) (Ce.h hcea) ?_
          refine WH_p (PS_nilCheck rfl) rfl ?_
          refine WH_p (PS_indexA Hvac.runUnderlying292 Hvac.sizeOf4 rfl rfl (by omega) (by omega)) rfl ?_
          refine WH_storeQ (n := 1600) Hvac.sizeOf4 rfl rfl (Hb.drew hbB) (by simp only [Int.toNat_natCast]; omega) ?_
          intro w18 g18 hB18 hg18
          have hu18 : ∀ j, g18 j = if j < i2 + 1 then kout (krounds (kin s) 24) j else s j := upto_step (f := kout (krounds (kin s) 24)) (p := i2) (by simp only [Int.toNat_natCast]; omega) hgs rfl hg18
          refine ⟨(fun h => by cases h), ?_⟩
          refine WH_nil ?_
          refine inBlk_normal ?_
          refine thn_normal ?_
          refine W_region rfl ?_
          refine WO_p (PS_add_i64n rfl rfl (by omega) (by omega)) ?_
          refine WO_p (PS_move_int rfl) ?_
          refine WO_nil ?_
          refine thn_normal ?_
          exact ⟨mB - 1, by omega, i2 + 1, g18, by omega, hu18, ⟨rfl, rfl, congrArg (Value.int .i64) (by omega), trivial⟩, (hBB.ext (Ext.drew (Ext.refl _))).trans hB18, by have := hB18.keep.sz; simp only [size_drew] at this; omega, hB18.other hcB.drew (by omega)⟩
        · have hb14p := hb14.h; try simp only [al_ete, al_dfn, Bool.not_eq_true', Bool.not_eq_false', al_ne, Bool.not_not, al_nn] at hb14p
          refine W_exit ?_
          refine thn_exit ?_
          refine thn_exit ?_
          refine inBlk_exit ?_
          first | refine bodyQ_ret0 Hvac.results224 ?_ | refine bodyQ_end0 Hvac.results224 ?_
          exact ⟨rfl, hBB.cg (fun j hj => by rw [hgs, if_pos (by omega)]; rfl)⟩

end Go.Proofs.YgvacwGreat
