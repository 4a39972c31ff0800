import Derived.Test.YgvadwGreatYa
namespace Go.Proofs.YgvadwGreat
set_option linter.unusedSimpArgs false
set_option linter.unusedVariables false
theorem NS.at_ {T : TypeId} {w : World} {p : Option Addr} {n c m : Nat} (h : NS T w (p, n, c) m) (h0 : 0 < n) : ∃ b L fz, p = some ⟨b, 0, none⟩ ∧ Hb w b (.cells (ic .u8 L) T fz) ∧ (∀ x ∈ L, 0 ≤ x ∧ x ≤ 255) ∧ n ≤ L.length := by
  have hlc := h.lc
  obtain ⟨b, L, fz, h1, h2, h3, h4⟩ := h.row (Nat.lt_of_lt_of_le h0 hlc)
  exact ⟨b, L, fz, h1, h2, h3, Nat.le_trans hlc h4⟩

set_option maxRecDepth 10000 in
set_option maxHeartbeats 4000000 in
theorem add_spec9 (s t : SV) (m : Nat) (w : World) (hs : NS 5 w s m) (ht : NS 5 w t m) (hm : m ≤ 900) : Ret Hvad.prog 26 #[.slice s.1 s.2.1 s.2.2, .slice t.1 t.2.1 t.2.2] w fun u w' => Ext w w' ∧ ∃ s' : SV, u = .slice s'.1 s'.2.1 s'.2.2 ∧ NS 5 w' s' (m + 1) := by
  refine Ret_of_W Hvad.func26 rfl rfl ?_
  refine W_seq ?_
  refine W_region rfl ?_
  refine WO_p (PS_assign_slice rfl) ?_
  refine WO_nil ?_
  refine thn_normal ?_
  refine W_seq ?_
  refine W_region rfl ?_
  refine WO_p (PS_move_slice rfl) ?_
  refine WO_call Hvad.call59 (by rfl) (Ret.mono (trim_spec 5 s m _ (NS.ext hs (by repeat (first | assumption | exact Ext.refl _ | refine Ext.alloc ?_ _ | refine Ext.drew ?_ | refine Ext.setB ?_ (by first | omega | (simp only [size_alloc, size_setB, size_drew]; omega)) _ | exact Ext.trans (by assumption) (by assumption) | refine Ext.trans ?_ (by assumption)))) (by omega)) ?_)
  rintro _ w1 ⟨hE1, ⟨p1, n1, c1⟩, rfl, hs1, hc1⟩
  dsimp only
  have hlm1 := hs1.lm
  have hlc1 := hs1.lc
  have hz1 := hE1.1
  dsimp only at hlm1 hlc1 hc1
  refine WO_p (PS_assign_slice rfl) ?_
  refine WO_nil ?_
  refine thn_normal ?_
  refine W_seq ?_
  refine W_region rfl ?_
  refine WO_p (PS_move_slice rfl) ?_
  refine WO_call Hvad.call59 (by rfl) (Ret.mono (trim_spec 5 t m _ (NS.ext ht (by repeat (first | assumption | exact Ext.refl _ | refine Ext.alloc ?_ _ | refine Ext.drew ?_ | refine Ext.setB ?_ (by first | omega | (simp only [size_alloc, size_setB, size_drew]; omega)) _ | exact Ext.trans (by assumption) (by assumption) | refine Ext.trans ?_ (by assumption)))) (by omega)) ?_)
  rintro _ w2 ⟨hE2, ⟨p2, n2, c2⟩, rfl, hs2, hc2⟩
  dsimp only
  have hlm2 := hs2.lm
  have hlc2 := hs2.lc
  have hz2 := hE2.1
  dsimp only at hlm2 hlc2 hc2
  refine WO_p (PS_assign_slice rfl) ?_
  refine WO_nil ?_
  refine thn_normal ?_
  refine W_seq ?_
  refine W_seq ?_
  replace hs1 := hs1.ext hE2
  have hE12 := hE1.trans hE2
  have hz12 := hE12.1
  refine W_region rfl ?_
  refine WO_p (PS_move_slice rfl) ?_
  refine WO_p (PS_lenS Hvad.runUnderlying95 rfl) ?_
  refine WO_p (PS_move_slice rfl) ?_
  refine WO_p (PS_lenS Hvad.runUnderlying95 rfl) ?_
  refine WO_p (PS_lss rfl rfl) ?_
  refine WO_nil ?_
  refine thn_normal ?_
  refine W_if rfl (fun hb4 => ?_) (fun hb4 => ?_)
  · have hb4p := hb4.h; try simp only [al_ete, al_dfn, Bool.not_eq_true', Bool.not_eq_false', al_ne, Bool.not_not, al_nn] at hb4p
    have hA := hs2
    have hB := hs1
    refine W_region rfl ?_
    refine WO_p (PS_move_slice rfl) ?_
    refine WO_p (PS_move_slice rfl) ?_
    refine WO_p (PS_assign_slice rfl) ?_
    refine WO_p (PS_assign_slice rfl) ?_
    refine WO_nil ?_
    refine thn_normal ?_
    refine W_seq ?_
    refine W_region rfl ?_
    refine WO_p (PS_move_slice rfl) ?_
    refine WO_p (PS_lenS Hvad.runUnderlying95 rfl) ?_
    refine WO_p (PS_add_i64n rfl rfl (by omega) (by omega)) ?_
    refine WO_make (z := .int .u8 0) Hvad.underlying95 info5 rfl rfl rfl (by omega) (by omega) (by show (1:Int) * _ ≤ _; omega) (by omega) ?_
    rw [show ((n2:Int) + 1).toNat = n2 + 1 from by omega, show madeCells (Value.int IntKind.u8 0).cells ((n2 + 1) * Hvad.t5.size) = ic .u8 (List.replicate (n2 + 1) 0) from by rw [show Hvad.t5.size = 1 from rfl, Nat.mul_one]; exact made_ic .u8 (n2 + 1)]
    apply WO_gen4; intro w5 hw5
    have hb5q : Hb w5 w2.heap.size (.cells (ic .u8 (List.replicate (n2 + 1) 0)) 5 (0, 0)) := by rw [hw5]; exact Hb.newY _ _
    have hE5 : Ext w2 w5 := by rw [hw5]; exact Ext.alloc (Ext.refl _) _
    generalize hb5e : w2.heap.size = b5 at *
    clear hw5
    refine WO_p (PS_assign_slice rfl) ?_
    refine WO_nil ?_
    refine thn_normal ?_
    refine W_seq ?_
    refine W_region rfl ?_
    refine WO_p (PS_assign_int rfl) ?_
    refine WO_nil ?_
    refine thn_normal ?_
    refine W_seq ?_
    refine W_seq ?_
    refine W_region rfl ?_
    refine WO_p (PS_move_slice rfl) ?_
    refine WO_p (PS_lenS Hvad.runUnderlying95 rfl) ?_
    refine WO_p (PS_move_int rfl) ?_
    refine WO_nil ?_
    refine thn_normal ?_
    refine W_block ?_
    refine W_loopN (fun k ρ w' => ∃ (i : Nat) (L : List Int) (cy : Int), i + k = n2 ∧ By L (n2 + 1) ∧ (0 ≤ cy ∧ cy ≤ 1) ∧ Fr [(0, .slice p2 n2 c2), (1, .slice p1 n1 c1), (5, .slice (some ⟨b5, 0, none⟩) (n2 + 1) (n2 + 1)), (6, .int .u16 cy), (24, .slice p2 n2 c2), (25, .int .i64 n2), (26, .int .i64 i)] ρ ∧ Ext w w' ∧ Ext w2 w' ∧ Hb w' b5 (.cells (ic .u8 L) 5 (0, 0))) n2 ?_ ?_
    · exact ⟨0, List.replicate (n2 + 1) 0, 0, by omega, ⟨List.length_replicate, by intro x hx; rw [(List.mem_replicate.1 hx).2]; omega⟩, by omega, ⟨rfl, rfl, rfl, rfl, rfl, rfl, rfl, trivial⟩, hE12.trans hE5, hE5, hb5q⟩
    intro k ρ w3 hI3
    obtain ⟨i, L, cy, hik, hL, hcy, hFr, hE3, hE32, hb5⟩ := hI3
    refine W_env _ hFr ?_
    have hz3 := hE3.1
    refine W_seq ?_
    refine W_region rfl ?_
    refine WO_p (PS_lss rfl rfl) ?_
    refine WO_nil ?_
    refine thn_normal ?_
    refine W_seq ?_
    refine W_if rfl (fun hb6 => ?_) (fun hb6 => ?_)
    · have hb6p := hb6.h; try simp only [al_ete, al_dfn, Bool.not_eq_true', Bool.not_eq_false', al_ne, Bool.not_not, al_nn] at hb6p
      obtain ⟨ba, La, fza, hpa, hba, hbya, hlla⟩ := hA.at_ (by omega)
      subst hpa
      have hba3 := hba.ext hE32
      have hcea : Ce (ic .u8 La) (0 + i * 1) (.int .u8 (La.getD i 0)) := ce_ic (by omega)
      have hga := getD_byte hbya i
      refine W_skip ?_
      refine thn_normal ?_
      refine W_seq ?_
      refine W_block ?_
      refine W_seq ?_
      refine W_region rfl ?_
      refine WO_p (PS_move_int rfl) ?_
      refine WO_p (PS_indexS Hvad.runUnderlying95 Hvad.sizeOf5 rfl rfl (by omega) (by omega)) ?_
      refine WO_load (.int _ _) Hvad.isAgg5 rfl (Hb.h (by repeat (first | assumption | exact Hb.newY _ _ | refine Hb.alloc ?_ | refine Hb.drew ?_ | refine Hb.ext (by assumption) ?_ | exact Hb.setSameL (by first | omega | (simp only [size_alloc, size_setB, size_drew]; omega)) | exact Hb.setSame (by assumption) | refine Hb.set (by first | omega | (simp only [size_alloc, size_setB, size_drew]; omega)) ?_ ))) (Ce.h (by first | assumption | exact ⟨rfl⟩)) ?_
      refine WO_p (PS_assign_int rfl) ?_
      refine WO_p (PS_assign_int rfl) ?_
      refine WO_nil ?_
      refine thn_normal ?_
      refine W_seq ?_
      refine W_region rfl ?_
      refine WO_p (PS_move_int rfl) ?_
      refine WO_p (PS_move_int rfl) ?_
      refine WO_p (PS_conv_u16n Hvad.runUnderlying5 Hvad.runUnderlying61 rfl (by omega) (by omega)) ?_
      refine WO_p (PS_add_u16n rfl rfl (by omega) (by omega)) ?_
      refine WO_p (PS_assign_int rfl) ?_
      refine WO_nil ?_
      refine thn_normal ?_
      refine W_seq ?_
      refine W_seq ?_
      refine W_region rfl ?_
      refine WO_p (PS_move_int rfl) ?_
      refine WO_p (PS_move_slice rfl) ?_
      refine WO_p (PS_lenS Hvad.runUnderlying95 rfl) ?_
      refine WO_p (PS_lss rfl rfl) ?_
      refine WO_nil ?_
      refine thn_normal ?_
      refine W_if rfl (fun hb8 => ?_) (fun hb8 => ?_)
      · have hb8p := hb8.h; try simp only [al_ete, al_dfn, Bool.not_eq_true', Bool.not_eq_false', al_ne, Bool.not_not, al_nn] at hb8p
        obtain ⟨bb, Lb, fzb, hpb, hbb, hbyb, hllb⟩ := hB.at_ (by omega)
        subst hpb
        have hbb3 := hbb.ext hE32
        have hceb : Ce (ic .u8 Lb) (0 + i * 1) (.int .u8 (Lb.getD i 0)) := ce_ic (by omega)
        have hgb := getD_byte hbyb i
        have hcy2 : 0 ≤ cy + La.getD i 0 + Lb.getD i 0 ∧ cy + La.getD i 0 + Lb.getD i 0 ≤ 511 := by omega
        refine W_region rfl ?_
        refine WO_p (PS_move_int rfl) ?_
        refine WO_p (PS_move_slice rfl) ?_
        refine WO_p (PS_move_int rfl) ?_
        refine WO_p (PS_indexS Hvad.runUnderlying95 Hvad.sizeOf5 rfl rfl (by omega) (by omega)) ?_
        refine WO_load (.int _ _) Hvad.isAgg5 rfl (Hb.h (by repeat (first | assumption | exact Hb.newY _ _ | refine Hb.alloc ?_ | refine Hb.drew ?_ | refine Hb.ext (by assumption) ?_ | exact Hb.setSameL (by first | omega | (simp only [size_alloc, size_setB, size_drew]; omega)) | exact Hb.setSame (by assumption) | refine Hb.set (by first | omega | (simp only [size_alloc, size_setB, size_drew]; omega)) ?_ ))) (Ce.h (by first | assumption | exact ⟨rfl⟩)) ?_
        refine WO_p (PS_conv_u16n Hvad.runUnderlying5 Hvad.runUnderlying61 rfl (by omega) (by omega)) ?_
        refine WO_p (PS_add_u16n rfl rfl (by omega) (by omega)) ?_
        refine WO_p (PS_assign_int rfl) ?_
        refine WO_nil ?_
        refine thn_normal ?_
        refine W_seq ?_
        refine W_region rfl ?_
        refine WO_p (PS_move_slice rfl) ?_
        refine WO_p (PS_move_int rfl) ?_
        refine WO_p (PS_move_int rfl) ?_
        refine WO_p (PS_conv_u8w Hvad.runUnderlying61 Hvad.runUnderlying5 rfl) ?_
        refine WO_p (PS_indexS Hvad.runUnderlying95 Hvad.sizeOf5 rfl rfl (by omega) (by omega)) ?_
        refine WO_store1 Hvad.sizeOf5 rfl (v := .int _ _) rfl hb5.h rfl (by rw [size_ic, hL.1]; omega) rfl ?_
        rw [show ((i : Int)).toNat = i from Int.toNat_natCast i, ic_set]
        have hL4 : By (L.set i ((cy + La.getD i 0 + Lb.getD i 0) % 256)) (n2 + 1) := by
          refine ⟨by rw [List.length_set]; exact hL.1, fun x hx => ?_⟩
          rcases List.mem_or_eq_of_mem_set hx with hx | rfl
          · exact hL.2 x hx
          · omega
        refine WO_nil ?_
        refine thn_normal ?_
        refine W_region rfl ?_
        refine WO_p (PS_move_int rfl) ?_
        refine WO_p (PS_shr_u16 8 rfl rfl (by decide) rfl) ?_
        refine WO_p (PS_assign_int rfl) ?_
        refine WO_nil ?_
        refine inBlk_normal ?_
        refine thn_normal ?_
        refine W_region rfl ?_
        refine WO_p (PS_add_i64n rfl rfl (by omega) (by omega)) ?_
        refine WO_p (PS_move_int rfl) ?_
        refine WO_nil ?_
        refine thn_normal ?_
        exact ⟨k - 1, by omega, i + 1, _, (cy + La.getD i 0 + Lb.getD i 0) / 2 ^ 8, by omega, hL4, by omega, ⟨rfl, rfl, rfl, rfl, rfl, rfl, congrArg (Value.int .i64) (by omega), trivial⟩, Ext.setB hE3 (by omega) _, Ext.setB hE32 (by omega) _, Hb.setSame hb5⟩
      · have hb8p := hb8.h; try simp only [al_ete, al_dfn, Bool.not_eq_true', Bool.not_eq_false', al_ne, Bool.not_not, al_nn] at hb8p
        have hcy2 : 0 ≤ cy + La.getD i 0 ∧ cy + La.getD i 0 ≤ 511 := by omega
        refine W_skip ?_
        refine thn_normal ?_
        refine W_seq ?_
        refine W_region rfl ?_
        refine WO_p (PS_move_slice rfl) ?_
        refine WO_p (PS_move_int rfl) ?_
        refine WO_p (PS_move_int rfl) ?_
        refine WO_p (PS_conv_u8w Hvad.runUnderlying61 Hvad.runUnderlying5 rfl) ?_
        refine WO_p (PS_indexS Hvad.runUnderlying95 Hvad.sizeOf5 rfl rfl (by omega) (by omega)) ?_
        refine WO_store1 Hvad.sizeOf5 rfl (v := .int _ _) rfl hb5.h rfl (by rw [size_ic, hL.1]; omega) rfl ?_
        rw [show ((i : Int)).toNat = i from Int.toNat_natCast i, ic_set]
        have hL4 : By (L.set i ((cy + La.getD i 0) % 256)) (n2 + 1) := by
          refine ⟨by rw [List.length_set]; exact hL.1, fun x hx => ?_⟩
          rcases List.mem_or_eq_of_mem_set hx with hx | rfl
          · exact hL.2 x hx
          · omega
        refine WO_nil ?_
        refine thn_normal ?_
        refine W_region rfl ?_
        refine WO_p (PS_move_int rfl) ?_
        refine WO_p (PS_shr_u16 8 rfl rfl (by decide) rfl) ?_
        refine WO_p (PS_assign_int rfl) ?_
        refine WO_nil ?_
        refine inBlk_normal ?_
        refine thn_normal ?_
        refine W_region rfl ?_
        refine WO_p (PS_add_i64n rfl rfl (by omega) (by omega)) ?_
        refine WO_p (PS_move_int rfl) ?_
        refine WO_nil ?_
        refine thn_normal ?_
        exact ⟨k - 1, by omega, i + 1, _, (cy + La.getD i 0) / 2 ^ 8, by omega, hL4, by omega, ⟨rfl, rfl, rfl, rfl, rfl, rfl, congrArg (Value.int .i64) (by omega), trivial⟩, Ext.setB hE3 (by omega) _, Ext.setB hE32 (by omega) _, Hb.setSame hb5⟩
    · have hb6p := hb6.h; try simp only [al_ete, al_dfn, Bool.not_eq_true', Bool.not_eq_false', al_ne, Bool.not_not, al_nn] at hb6p
      refine W_exit ?_
      refine thn_exit ?_
      refine thn_exit ?_
      refine inBlk_exit ?_
      refine thn_normal ?_
      refine W_seq ?_
      refine W_region rfl ?_
      refine WO_p (PS_move_slice rfl) ?_
      refine WO_p (PS_move_slice rfl) ?_
      refine WO_p (PS_lenS Hvad.runUnderlying95 rfl) ?_
      refine WO_p (PS_move_int rfl) ?_
      refine WO_p (PS_conv_u8w Hvad.runUnderlying61 Hvad.runUnderlying5 rfl) ?_
      refine WO_p (PS_indexS Hvad.runUnderlying95 Hvad.sizeOf5 rfl rfl (by omega) (by omega)) ?_
      refine WO_store1 Hvad.sizeOf5 rfl (v := .int _ _) rfl hb5.h rfl (by rw [size_ic, hL.1]; omega) rfl ?_
      rw [show ((n2 : Int)).toNat = n2 from Int.toNat_natCast _, ic_set]
      have hL6 : By (L.set n2 (cy % 256)) (n2 + 1) := by
        refine ⟨by rw [List.length_set]; exact hL.1, fun x hx => ?_⟩
        rcases List.mem_or_eq_of_mem_set hx with hx | rfl
        · exact hL.2 x hx
        · omega
      refine WO_nil ?_
      refine thn_normal ?_
      refine W_seq ?_
      refine W_region rfl ?_
      refine WO_p (PS_move_slice rfl) ?_
      refine WO_call Hvad.call60 (by rfl) (Ret.mono (clip_spec 5 (some ⟨b5, 0, none⟩, n2 + 1, n2 + 1) (m + 1) _ ⟨by show n2 + 1 ≤ m + 1; omega, Nat.le_refl _, fun _ => ⟨b5, _, (0, 0), rfl, Hb.setSame hb5, hL6.2, by show n2 + 1 ≤ _; rw [hL6.1]; exact Nat.le_refl _⟩⟩ (by omega)) ?_)
      rintro _ w9 ⟨hE9, s9, rfl, hs9⟩
      have hE99 : Ext w w9 := Ext.trans (Ext.setB hE3 (by omega) _) hE9
      refine WO_p (PS_assign_slice rfl) ?_
      refine WO_nil ?_
      refine thn_normal ?_
      refine W_ret ?_
      refine bodyQ_ret1 Hvad.results26 rfl (.slice _ _ _) rfl ?_
      exact ⟨hE99, s9, rfl, hs9⟩
  · have hb4p := hb4.h; try simp only [al_ete, al_dfn, Bool.not_eq_true', Bool.not_eq_false', al_ne, Bool.not_not, al_nn] at hb4p
    have hA := hs1
    have hB := hs2
    refine W_skip ?_
    refine thn_normal ?_
    refine W_seq ?_
    refine W_region rfl ?_
    refine WO_p (PS_move_slice rfl) ?_
    refine WO_p (PS_lenS Hvad.runUnderlying95 rfl) ?_
    refine WO_p (PS_add_i64n rfl rfl (by omega) (by omega)) ?_
    refine WO_make (z := .int .u8 0) Hvad.underlying95 info5 rfl rfl rfl (by omega) (by omega) (by show (1:Int) * _ ≤ _; omega) (by omega) ?_
    rw [show ((n1:Int) + 1).toNat = n1 + 1 from by omega, show madeCells (Value.int IntKind.u8 0).cells ((n1 + 1) * Hvad.t5.size) = ic .u8 (List.replicate (n1 + 1) 0) from by rw [show Hvad.t5.size = 1 from rfl, Nat.mul_one]; exact made_ic .u8 (n1 + 1)]
    apply WO_gen4; intro w5 hw5
    have hb5q : Hb w5 w2.heap.size (.cells (ic .u8 (List.replicate (n1 + 1) 0)) 5 (0, 0)) := by rw [hw5]; exact Hb.newY _ _
    have hE5 : Ext w2 w5 := by rw [hw5]; exact Ext.alloc (Ext.refl _) _
    generalize hb5e : w2.heap.size = b5 at *
    clear hw5
    refine WO_p (PS_assign_slice rfl) ?_
    refine WO_nil ?_
    refine thn_normal ?_
    refine W_seq ?_
    refine W_region rfl ?_
    refine WO_p (PS_assign_int rfl) ?_
    refine WO_nil ?_
    refine thn_normal ?_
    refine W_seq ?_
    refine W_seq ?_
    refine W_region rfl ?_
    refine WO_p (PS_move_slice rfl) ?_
    refine WO_p (PS_lenS Hvad.runUnderlying95 rfl) ?_
    refine WO_p (PS_move_int rfl) ?_
    refine WO_nil ?_
    refine thn_normal ?_
    refine W_block ?_
    refine W_loopN (fun k ρ w' => ∃ (i : Nat) (L : List Int) (cy : Int), i + k = n1 ∧ By L (n1 + 1) ∧ (0 ≤ cy ∧ cy ≤ 1) ∧ Fr [(0, .slice p1 n1 c1), (1, .slice p2 n2 c2), (5, .slice (some ⟨b5, 0, none⟩) (n1 + 1) (n1 + 1)), (6, .int .u16 cy), (24, .slice p1 n1 c1), (25, .int .i64 n1), (26, .int .i64 i)] ρ ∧ Ext w w' ∧ Ext w2 w' ∧ Hb w' b5 (.cells (ic .u8 L) 5 (0, 0))) n1 ?_ ?_
    · exact ⟨0, List.replicate (n1 + 1) 0, 0, by omega, ⟨List.length_replicate, by intro x hx; rw [(List.mem_replicate.1 hx).2]; omega⟩, by omega, ⟨rfl, rfl, rfl, rfl, rfl, rfl, rfl, trivial⟩, hE12.trans hE5, hE5, hb5q⟩
    intro k ρ w3 hI3
    obtain ⟨i, L, cy, hik, hL, hcy, hFr, hE3, hE32, hb5⟩ := hI3
    refine W_env _ hFr ?_
    have hz3 := hE3.1
    refine W_seq ?_
    refine W_region rfl ?_
    refine WO_p (PS_lss rfl rfl) ?_
    refine WO_nil ?_
    refine thn_normal ?_
    refine W_seq ?_
    refine W_if rfl (fun hb11 => ?_) (fun hb11 => ?_)
    · have hb11p := hb11.h; try simp only [al_ete, al_dfn, Bool.not_eq_true', Bool.not_eq_false', al_ne, Bool.not_not, al_nn] at hb11p
      obtain ⟨ba, La, fza, hpa, hba, hbya, hlla⟩ := hA.at_ (by omega)
      subst hpa
      have hba3 := hba.ext hE32
      have hcea : Ce (ic .u8 La) (0 + i * 1) (.int .u8 (La.getD i 0)) := ce_ic (by omega)
      have hga := getD_byte hbya i
      refine W_skip ?_
      refine thn_normal ?_
      refine W_seq ?_
      refine W_block ?_
      refine W_seq ?_
      refine W_region rfl ?_
      refine WO_p (PS_move_int rfl) ?_
      refine WO_p (PS_indexS Hvad.runUnderlying95 Hvad.sizeOf5 rfl rfl (by omega) (by omega)) ?_
      refine WO_load (.int _ _) Hvad.isAgg5 rfl (Hb.h (by repeat (first | assumption | exact Hb.newY _ _ | refine Hb.alloc ?_ | refine Hb.drew ?_ | refine Hb.ext (by assumption) ?_ | exact Hb.setSameL (by first | omega | (simp only [size_alloc, size_setB, size_drew]; omega)) | exact Hb.setSame (by assumption) | refine Hb.set (by first | omega | (simp only [size_alloc, size_setB, size_drew]; omega)) ?_ ))) (Ce.h (by first | assumption | exact ⟨rfl⟩)) ?_
      refine WO_p (PS_assign_int rfl) ?_
      refine WO_p (PS_assign_int rfl) ?_
      refine WO_nil ?_
      refine thn_normal ?_
      refine W_seq ?_
      refine W_region rfl ?_
      refine WO_p (PS_move_int rfl) ?_
      refine WO_p (PS_move_int rfl) ?_
      refine WO_p (PS_conv_u16n Hvad.runUnderlying5 Hvad.runUnderlying61 rfl (by omega) (by omega)) ?_
      refine WO_p (PS_add_u16n rfl rfl (by omega) (by omega)) ?_
      refine WO_p (PS_assign_int rfl) ?_
      refine WO_nil ?_
      refine thn_normal ?_
      refine W_seq ?_
      refine W_seq ?_
      refine W_region rfl ?_
      refine WO_p (PS_move_int rfl) ?_
      refine WO_p (PS_move_slice rfl) ?_
      refine WO_p (PS_lenS Hvad.runUnderlying95 rfl) ?_
      refine WO_p (PS_lss rfl rfl) ?_
      refine WO_nil ?_
      refine thn_normal ?_
      refine W_if rfl (fun hb13 => ?_) (fun hb13 => ?_)
      · have hb13p := hb13.h; try simp only [al_ete, al_dfn, Bool.not_eq_true', Bool.not_eq_false', al_ne, Bool.not_not, al_nn] at hb13p
        obtain ⟨bb, Lb, fzb, hpb, hbb, hbyb, hllb⟩ := hB.at_ (by omega)
        subst hpb
        have hbb3 := hbb.ext hE32
        have hceb : Ce (ic .u8 Lb) (0 + i * 1) (.int .u8 (Lb.getD i 0)) := ce_ic (by omega)
        have hgb := getD_byte hbyb i
        have hcy2 : 0 ≤ cy + La.getD i 0 + Lb.getD i 0 ∧ cy + La.getD i 0 + Lb.getD i 0 ≤ 511 := by omega
        refine W_region rfl ?_
        refine WO_p (PS_move_int rfl) ?_
        refine WO_p (PS_move_slice rfl) ?_
        refine WO_p (PS_move_int rfl) ?_
        refine WO_p (PS_indexS Hvad.runUnderlying95 Hvad.sizeOf5 rfl rfl (by omega) (by omega)) ?_
        refine WO_load (.int _ _) Hvad.isAgg5 rfl (Hb.h (by repeat (first | assumption | exact Hb.newY _ _ | refine Hb.alloc ?_ | refine Hb.drew ?_ | refine Hb.ext (by assumption) ?_ | exact Hb.setSameL (by first | omega | (simp only [size_alloc, size_setB, size_drew]; omega)) | exact Hb.setSame (by assumption) | refine Hb.set (by first | omega | (simp only [size_alloc, size_setB, size_drew]; omega)) ?_ ))) (Ce.h (by first | assumption | exact ⟨rfl⟩)) ?_
        refine WO_p (PS_conv_u16n Hvad.runUnderlying5 Hvad.runUnderlying61 rfl (by omega) (by omega)) ?_
        refine WO_p (PS_add_u16n rfl rfl (by omega) (by omega)) ?_
        refine WO_p (PS_assign_int rfl) ?_
        refine WO_nil ?_
        refine thn_normal ?_
        refine W_seq ?_
        refine W_region rfl ?_
        refine WO_p (PS_move_slice rfl) ?_
        refine WO_p (PS_move_int rfl) ?_
        refine WO_p (PS_move_int rfl) ?_
        refine WO_p (PS_conv_u8w Hvad.runUnderlying61 Hvad.runUnderlying5 rfl) ?_
        refine WO_p (PS_indexS Hvad.runUnderlying95 Hvad.sizeOf5 rfl rfl (by omega) (by omega)) ?_
        refine WO_store1 Hvad.sizeOf5 rfl (v := .int _ _) rfl hb5.h rfl (by rw [size_ic, hL.1]; omega) rfl ?_
        rw [show ((i : Int)).toNat = i from Int.toNat_natCast i, ic_set]
        have hL4 : By (L.set i ((cy + La.getD i 0 + Lb.getD i 0) % 256)) (n1 + 1) := by
          refine ⟨by rw [List.length_set]; exact hL.1, fun x hx => ?_⟩
          rcases List.mem_or_eq_of_mem_set hx with hx | rfl
          · exact hL.2 x hx
          · omega
        refine WO_nil ?_
        refine thn_normal ?_
        refine W_region rfl ?_
        refine WO_p (PS_move_int rfl) ?_
        refine WO_p (PS_shr_u16 8 rfl rfl (by decide) rfl) ?_
        refine WO_p (PS_assign_int rfl) ?_
        refine WO_nil ?_
        refine inBlk_normal ?_
        refine thn_normal ?_
        refine W_region rfl ?_
        refine WO_p (PS_add_i64n rfl rfl (by omega) (by omega)) ?_
        refine WO_p (PS_move_int rfl) ?_
        refine WO_nil ?_
        refine thn_normal ?_
        exact ⟨k - 1, by omega, i + 1, _, (cy + La.getD i 0 + Lb.getD i 0) / 2 ^ 8, by omega, hL4, by omega, ⟨rfl, rfl, rfl, rfl, rfl, rfl, congrArg (Value.int .i64) (by omega), trivial⟩, Ext.setB hE3 (by omega) _, Ext.setB hE32 (by omega) _, Hb.setSame hb5⟩
      · have hb13p := hb13.h; try simp only [al_ete, al_dfn, Bool.not_eq_true', Bool.not_eq_false', al_ne, Bool.not_not, al_nn] at hb13p
        have hcy2 : 0 ≤ cy + La.getD i 0 ∧ cy + La.getD i 0 ≤ 511 := by omega
        refine W_skip ?_
        refine thn_normal ?_
        refine W_seq ?_
        refine W_region rfl ?_
        refine WO_p (PS_move_slice rfl) ?_
        refine WO_p (PS_move_int rfl) ?_
        refine WO_p (PS_move_int rfl) ?_
        refine WO_p (PS_conv_u8w Hvad.runUnderlying61 Hvad.runUnderlying5 rfl) ?_
        refine WO_p (PS_indexS Hvad.runUnderlying95 Hvad.sizeOf5 rfl rfl (by omega) (by omega)) ?_
        refine WO_store1 Hvad.sizeOf5 rfl (v := .int _ _) rfl hb5.h rfl (by rw [size_ic, hL.1]; omega) rfl ?_
        rw [show ((i : Int)).toNat = i from Int.toNat_natCast i, ic_set]
        have hL4 : By (L.set i ((cy + La.getD i 0) % 256)) (n1 + 1) := by
          refine ⟨by rw [List.length_set]; exact hL.1, fun x hx => ?_⟩
          rcases List.mem_or_eq_of_mem_set hx with hx | rfl
          · exact hL.2 x hx
          · omega
        refine WO_nil ?_
        refine thn_normal ?_
        refine W_region rfl ?_
        refine WO_p (PS_move_int rfl) ?_
        refine WO_p (PS_shr_u16 8 rfl rfl (by decide) rfl) ?_
        refine WO_p (PS_assign_int rfl) ?_
        refine WO_nil ?_
        refine inBlk_normal ?_
        refine thn_normal ?_
        refine W_region rfl ?_
        refine WO_p (PS_add_i64n rfl rfl (by omega) (by omega)) ?_
        refine WO_p (PS_move_int rfl) ?_
        refine WO_nil ?_
        refine thn_normal ?_
        exact ⟨k - 1, by omega, i + 1, _, (cy + La.getD i 0) / 2 ^ 8, by omega, hL4, by omega, ⟨rfl, rfl, rfl, rfl, rfl, rfl, congrArg (Value.int .i64) (by omega), trivial⟩, Ext.setB hE3 (by omega) _, Ext.setB hE32 (by omega) _, Hb.setSame hb5⟩
    · have hb11p := hb11.h; try simp only [al_ete, al_dfn, Bool.not_eq_true', Bool.not_eq_false', al_ne, Bool.not_not, al_nn] at hb11p
      refine W_exit ?_
      refine thn_exit ?_
      refine thn_exit ?_
      refine inBlk_exit ?_
      refine thn_normal ?_
      refine W_seq ?_
      refine W_region rfl ?_
      refine WO_p (PS_move_slice rfl) ?_
      refine WO_p (PS_move_slice rfl) ?_
      refine WO_p (PS_lenS Hvad.runUnderlying95 rfl) ?_
      refine WO_p (PS_move_int rfl) ?_
      refine WO_p (PS_conv_u8w Hvad.runUnderlying61 Hvad.runUnderlying5 rfl) ?_
      refine WO_p (PS_indexS Hvad.runUnderlying95 Hvad.sizeOf5 rfl rfl (by omega) (by omega)) ?_
      refine WO_store1 Hvad.sizeOf5 rfl (v := .int _ _) rfl hb5.h rfl (by rw [size_ic, hL.1]; omega) rfl ?_
      rw [show ((n1 : Int)).toNat = n1 from Int.toNat_natCast _, ic_set]
      have hL6 : By (L.set n1 (cy % 256)) (n1 + 1) := by
        refine ⟨by rw [List.length_set]; exact hL.1, fun x hx => ?_⟩
        rcases List.mem_or_eq_of_mem_set hx with hx | rfl
        · exact hL.2 x hx
        · omega
      refine WO_nil ?_
      refine thn_normal ?_
      refine W_seq ?_
      refine W_region rfl ?_
      refine WO_p (PS_move_slice rfl) ?_
      refine WO_call Hvad.call60 (by rfl) (Ret.mono (clip_spec 5 (some ⟨b5, 0, none⟩, n1 + 1, n1 + 1) (m + 1) _ ⟨by show n1 + 1 ≤ m + 1; omega, Nat.le_refl _, fun _ => ⟨b5, _, (0, 0), rfl, Hb.setSame hb5, hL6.2, by show n1 + 1 ≤ _; rw [hL6.1]; exact Nat.le_refl _⟩⟩ (by omega)) ?_)
      rintro _ w9 ⟨hE9, s9, rfl, hs9⟩
      have hE99 : Ext w w9 := Ext.trans (Ext.setB hE3 (by omega) _) hE9
      refine WO_p (PS_assign_slice rfl) ?_
      refine WO_nil ?_
      refine thn_normal ?_
      refine W_ret ?_
      refine bodyQ_ret1 Hvad.results26 rfl (.slice _ _ _) rfl ?_
      exact ⟨hE99, s9, rfl, hs9⟩

set_option maxRecDepth 10000 in
set_option maxHeartbeats 4000000 in
theorem bytesOfZ_spec (s : SV) (w : World) (h0 : s.2.1 = 0) : Ret Hvad.prog 25 #[.slice s.1 s.2.1 s.2.2] w fun u w' => Ext w w' ∧ ∃ s' : SV, u = .slice s'.1 s'.2.1 s'.2.2 := by
  obtain ⟨p, n, cp⟩ := s
  dsimp only at h0 ⊢
  subst h0
  refine Ret_of_W Hvad.func25 rfl rfl ?_
  refine W_seq ?_
  refine W_region rfl ?_
  refine WO_p (PS_assign_slice rfl) ?_
  refine WO_nil ?_
  refine thn_normal ?_
  refine W_seq ?_
  refine W_seq ?_
  refine W_region rfl ?_
  refine WO_p (PS_move_slice rfl) ?_
  refine WO_p (PS_eqlslnil Hvad.underlying32 rfl) ?_
  refine WO_nil ?_
  refine thn_normal ?_
  refine W_if rfl (fun hb2 => ?_) (fun hb2 => ?_)
  · have hb2p := hb2.h; try simp only [al_ete, al_dfn, Bool.not_eq_true', Bool.not_eq_false', al_ne, Bool.not_not, al_nn] at hb2p
    refine W_seq ?_
    refine W_region rfl ?_
    refine WO_p (PS_assign_slice rfl) ?_
    refine WO_nil ?_
    refine thn_normal ?_
    refine W_ret ?_
    refine thn_ret ?_
    refine bodyQ_ret1 Hvad.results25 rfl (.slice _ _ _) rfl ?_
    exact ⟨(by repeat (first | assumption | exact Ext.refl _ | refine Ext.alloc ?_ _ | refine Ext.drew ?_ | refine Ext.setB ?_ (by first | omega | (simp only [size_alloc, size_setB, size_drew]; omega)) _ | refine Ext.trans ?_ (by assumption))), (_, _, _), rfl⟩
  · have hb2p := hb2.h; try simp only [al_ete, al_dfn, Bool.not_eq_true', Bool.not_eq_false', al_ne, Bool.not_not, al_nn] at hb2p
    refine W_skip ?_
    refine thn_normal ?_
    refine W_seq ?_
    refine W_region rfl ?_
    refine WO_p (PS_move_slice rfl) ?_
    refine WO_p (PS_lenS Hvad.runUnderlying32 rfl) ?_
    refine WO_make (z := .int .u8 0) Hvad.underlying32 info5 rfl rfl rfl (by decide) (by decide) (by decide) (by decide) ?_
    refine WO_p (PS_assign_slice rfl) ?_
    refine WO_nil ?_
    refine thn_normal ?_
    refine W_seq ?_
    refine W_region rfl ?_
    refine WO_p (PS_move_slice rfl) ?_
    refine WO_p (PS_move_slice rfl) ?_
    refine WO_copyZ Hvad.runUnderlying32 Hvad.sizeOf5 rfl rfl ?_
    refine WO_nil ?_
    refine thn_normal ?_
    refine W_seq ?_
    refine W_region rfl ?_
    refine WO_p (PS_move_slice rfl) ?_
    refine WO_p (PS_assign_slice rfl) ?_
    refine WO_nil ?_
    refine thn_normal ?_
    refine W_ret ?_
    refine bodyQ_ret1 Hvad.results25 rfl (.slice _ _ _) rfl ?_
    exact ⟨(by repeat (first | assumption | exact Ext.refl _ | refine Ext.alloc ?_ _ | refine Ext.drew ?_ | refine Ext.setB ?_ (by first | omega | (simp only [size_alloc, size_setB, size_drew]; omega)) _ | refine Ext.trans ?_ (by assumption))), (_, _, _), rfl⟩

set_option maxRecDepth 10000 in
set_option maxHeartbeats 4000000 in
theorem bytesOfN_spec (s : SV) (L : List Int) (w : World) (hs : SC w .u8 1 s L) (h0 : 0 < s.2.1) (hm : s.2.1 ≤ 1000) : Ret Hvad.prog 25 #[.slice s.1 s.2.1 s.2.2] w fun u w' => Ext w w' ∧ ∃ s' : SV, u = .slice s'.1 s'.2.1 s'.2.2 := by
  obtain ⟨p, n, cp⟩ := s
  obtain ⟨hsl, hss⟩ := hs
  dsimp only at hsl hss h0 hm ⊢
  obtain ⟨b, o, r, T, fz, hp1, hb1, ho, hxt⟩ := hss.resolve_left (fun h => by omega)
  subst hp1
  refine Ret_of_W Hvad.func25 rfl rfl ?_
  refine W_seq ?_
  refine W_region rfl ?_
  refine WO_p (PS_assign_slice rfl) ?_
  refine WO_nil ?_
  refine thn_normal ?_
  refine W_seq ?_
  refine W_seq ?_
  refine W_region rfl ?_
  refine WO_p (PS_move_slice rfl) ?_
  refine WO_p (PS_eqlslnil Hvad.underlying32 rfl) ?_
  refine WO_nil ?_
  refine thn_normal ?_
  refine W_if rfl (fun hb2 => ?_) (fun hb2 => ?_)
  · have hb2p := hb2.h; try simp only [al_ete, al_dfn, Bool.not_eq_true', Bool.not_eq_false', al_ne, Bool.not_not, al_nn] at hb2p
    cases hb2p --END
  · have hb2p := hb2.h; try simp only [al_ete, al_dfn, Bool.not_eq_true', Bool.not_eq_false', al_ne, Bool.not_not, al_nn] at hb2p
    refine W_skip ?_
    refine thn_normal ?_
    refine W_seq ?_
    refine W_region rfl ?_
    refine WO_p (PS_move_slice rfl) ?_
    refine WO_p (PS_lenS Hvad.runUnderlying32 rfl) ?_
    refine WO_make (z := .int .u8 0) Hvad.underlying32 info5 rfl rfl rfl (by omega) (by omega) (by show (1:Int) * _ ≤ _; omega) (by omega) ?_
    rw [show ((n:Int)).toNat = n from Int.toNat_natCast n, show madeCells (Value.int IntKind.u8 0).cells (n * Hvad.t5.size) = ic .u8 (List.replicate n 0) from by rw [show Hvad.t5.size = 1 from rfl, Nat.mul_one]; exact made_ic .u8 n]
    refine WO_p (PS_assign_slice rfl) ?_
    refine WO_nil ?_
    refine thn_normal ?_
    refine W_seq ?_
    refine W_region rfl ?_
    refine WO_p (PS_move_slice rfl) ?_
    refine WO_p (PS_move_slice rfl) ?_
    refine WO_copy n Hvad.runUnderlying32 Hvad.sizeOf5 rfl rfl (Hb.h (Hb.newY _ _)) (Hb.h (Hb.alloc hb1)) (Nat.min_self n) (by rw [size_ic, List.length_replicate]; omega) ho hxt.h oneCell_ic ?_
    refine WO_nil ?_
    refine thn_normal ?_
    refine W_seq ?_
    refine W_region rfl ?_
    refine WO_p (PS_move_slice rfl) ?_
    refine WO_p (PS_assign_slice rfl) ?_
    refine WO_nil ?_
    refine thn_normal ?_
    refine W_ret ?_
    refine bodyQ_ret1 Hvad.results25 rfl (.slice _ _ _) rfl ?_
    exact ⟨(by repeat (first | assumption | exact Ext.refl _ | refine Ext.alloc ?_ _ | refine Ext.drew ?_ | refine Ext.setB ?_ (by first | omega | (simp only [size_alloc, size_setB, size_drew]; omega)) _ | refine Ext.trans ?_ (by assumption))), (some ⟨w.heap.size, 0, none⟩, n, n), rfl⟩

set_option maxRecDepth 10000 in
set_option maxHeartbeats 4000000 in
theorem wordsOfZ_spec (s : SV) (w : World) (h0 : s.2.1 = 0) : Ret Hvad.prog 22 #[.slice s.1 s.2.1 s.2.2] w fun u w' => Ext w w' ∧ ∃ s' : SV, u = .slice s'.1 s'.2.1 s'.2.2 := by
  obtain ⟨p, n, cp⟩ := s
  dsimp only at h0 ⊢
  subst h0
  refine Ret_of_W Hvad.func22 rfl rfl ?_
  refine W_seq ?_
  refine W_region rfl ?_
  refine WO_p (PS_assign_slice rfl) ?_
  refine WO_nil ?_
  refine thn_normal ?_
  refine W_seq ?_
  refine W_seq ?_
  refine W_region rfl ?_
  refine WO_p (PS_move_slice rfl) ?_
  refine WO_p (PS_eqlslnil Hvad.underlying29 rfl) ?_
  refine WO_nil ?_
  refine thn_normal ?_
  refine W_if rfl (fun hb2 => ?_) (fun hb2 => ?_)
  · have hb2p := hb2.h; try simp only [al_ete, al_dfn, Bool.not_eq_true', Bool.not_eq_false', al_ne, Bool.not_not, al_nn] at hb2p
    refine W_seq ?_
    refine W_region rfl ?_
    refine WO_p (PS_assign_slice rfl) ?_
    refine WO_nil ?_
    refine thn_normal ?_
    refine W_ret ?_
    refine thn_ret ?_
    refine bodyQ_ret1 Hvad.results22 rfl (.slice _ _ _) rfl ?_
    exact ⟨(by repeat (first | assumption | exact Ext.refl _ | refine Ext.alloc ?_ _ | refine Ext.drew ?_ | refine Ext.setB ?_ (by first | omega | (simp only [size_alloc, size_setB, size_drew]; omega)) _ | refine Ext.trans ?_ (by assumption))), (_, _, _), rfl⟩
  · have hb2p := hb2.h; try simp only [al_ete, al_dfn, Bool.not_eq_true', Bool.not_eq_false', al_ne, Bool.not_not, al_nn] at hb2p
    refine W_skip ?_
    refine thn_normal ?_
    refine W_seq ?_
    refine W_region rfl ?_
    refine WO_p (PS_move_slice rfl) ?_
    refine WO_p (PS_lenS Hvad.runUnderlying29 rfl) ?_
    refine WO_make (z := .agg (List.replicate 32 (Value.int .u8 0)).toArray) Hvad.underlying29 info28 rfl rfl rfl (by decide) (by decide) (by decide) (by decide) ?_
    refine WO_p (PS_assign_slice rfl) ?_
    refine WO_nil ?_
    refine thn_normal ?_
    refine W_seq ?_
    refine W_region rfl ?_
    refine WO_p (PS_move_slice rfl) ?_
    refine WO_p (PS_move_slice rfl) ?_
    refine WO_copyZ Hvad.runUnderlying29 Hvad.sizeOf28 rfl rfl ?_
    refine WO_nil ?_
    refine thn_normal ?_
    refine W_seq ?_
    refine W_region rfl ?_
    refine WO_p (PS_move_slice rfl) ?_
    refine WO_p (PS_assign_slice rfl) ?_
    refine WO_nil ?_
    refine thn_normal ?_
    refine W_ret ?_
    refine bodyQ_ret1 Hvad.results22 rfl (.slice _ _ _) rfl ?_
    exact ⟨(by repeat (first | assumption | exact Ext.refl _ | refine Ext.alloc ?_ _ | refine Ext.drew ?_ | refine Ext.setB ?_ (by first | omega | (simp only [size_alloc, size_setB, size_drew]; omega)) _ | refine Ext.trans ?_ (by assumption))), (_, _, _), rfl⟩

set_option maxRecDepth 10000 in
set_option maxHeartbeats 4000000 in
theorem wordsOfN_spec (s : SV) (L : List Int) (w : World) (hs : SC w .u8 32 s L) (h0 : 0 < s.2.1) (hm : s.2.1 ≤ 1000) : Ret Hvad.prog 22 #[.slice s.1 s.2.1 s.2.2] w fun u w' => Ext w w' ∧ ∃ s' : SV, u = .slice s'.1 s'.2.1 s'.2.2 := by
  obtain ⟨p, n, cp⟩ := s
  obtain ⟨hsl, hss⟩ := hs
  dsimp only at hsl hss h0 hm ⊢
  obtain ⟨b, o, r, T, fz, hp1, hb1, ho, hxt⟩ := hss.resolve_left (fun h => by omega)
  subst hp1
  refine Ret_of_W Hvad.func22 rfl rfl ?_
  refine W_seq ?_
  refine W_region rfl ?_
  refine WO_p (PS_assign_slice rfl) ?_
  refine WO_nil ?_
  refine thn_normal ?_
  refine W_seq ?_
  refine W_seq ?_
  refine W_region rfl ?_
  refine WO_p (PS_move_slice rfl) ?_
  refine WO_p (PS_eqlslnil Hvad.underlying29 rfl) ?_
  refine WO_nil ?_
  refine thn_normal ?_
  refine W_if rfl (fun hb2 => ?_) (fun hb2 => ?_)
  · have hb2p := hb2.h; try simp only [al_ete, al_dfn, Bool.not_eq_true', Bool.not_eq_false', al_ne, Bool.not_not, al_nn] at hb2p
    cases hb2p --END
  · have hb2p := hb2.h; try simp only [al_ete, al_dfn, Bool.not_eq_true', Bool.not_eq_false', al_ne, Bool.not_not, al_nn] at hb2p
    refine W_skip ?_
    refine thn_normal ?_
    refine W_seq ?_
    refine W_region rfl ?_
    refine WO_p (PS_move_slice rfl) ?_
    refine WO_p (PS_lenS Hvad.runUnderlying29 rfl) ?_
    refine WO_make (z := .agg (List.replicate 32 (Value.int .u8 0)).toArray) Hvad.underlying29 info28 rfl rfl rfl (by omega) (by omega) (by show (32:Int) * _ ≤ _; omega) (by omega) ?_
    rw [show ((n:Int)).toNat = n from Int.toNat_natCast n, show Hvad.t28.size = 32 from rfl, made_W]
    refine WO_p (PS_assign_slice rfl) ?_
    refine WO_nil ?_
    refine thn_normal ?_
    refine W_seq ?_
    refine W_region rfl ?_
    refine WO_p (PS_move_slice rfl) ?_
    refine WO_p (PS_move_slice rfl) ?_
    refine WO_copy n Hvad.runUnderlying29 Hvad.sizeOf28 rfl rfl (Hb.h (Hb.newY _ _)) (Hb.h (Hb.alloc hb1)) (Nat.min_self n) (by rw [size_ic, List.length_replicate]; omega) ho hxt.h oneCell_ic ?_
    refine WO_nil ?_
    refine thn_normal ?_
    refine W_seq ?_
    refine W_region rfl ?_
    refine WO_p (PS_move_slice rfl) ?_
    refine WO_p (PS_assign_slice rfl) ?_
    refine WO_nil ?_
    refine thn_normal ?_
    refine W_ret ?_
    refine bodyQ_ret1 Hvad.results22 rfl (.slice _ _ _) rfl ?_
    exact ⟨(by repeat (first | assumption | exact Ext.refl _ | refine Ext.alloc ?_ _ | refine Ext.drew ?_ | refine Ext.setB ?_ (by first | omega | (simp only [size_alloc, size_setB, size_drew]; omega)) _ | refine Ext.trans ?_ (by assumption))), (some ⟨w.heap.size, 0, none⟩, n, n), rfl⟩

theorem bytesOf9_spec (s : SV) (L : List Int) (w : World) (hs : InRow encB 1 w s L) (hm : s.2.1 ≤ 1000) : Ret Hvad.prog 25 #[.slice s.1 s.2.1 s.2.2] w fun u w' => Ext w w' ∧ ∃ s' : SV, u = .slice s'.1 s'.2.1 s'.2.2 := by
  have hl := hs.len
  by_cases h0 : 0 < s.2.1
  · exact bytesOfN_spec s L w (hs.sc (by omega)) h0 hm
  · exact bytesOfZ_spec s w (by omega)
theorem wordsOf9_spec (s : SV) (L : List Int) (w : World) (hs : InFlat 32 w s L) (hm : s.2.1 ≤ 1000) : Ret Hvad.prog 22 #[.slice s.1 s.2.1 s.2.2] w fun u w' => Ext w w' ∧ ∃ s' : SV, u = .slice s'.1 s'.2.1 s'.2.2 := by
  by_cases h0 : 0 < s.2.1
  · obtain ⟨b, o, r, T, fz, h1, h2, h3, h4⟩ := hs.row h0
    exact wordsOfN_spec s L w ⟨hs.len, Or.inr ⟨b, o, r, T, fz, h1, h2, h3, h4⟩⟩ h0 hm
  · exact wordsOfZ_spec s w (by omega)
end Go.Proofs.YgvadwGreat
