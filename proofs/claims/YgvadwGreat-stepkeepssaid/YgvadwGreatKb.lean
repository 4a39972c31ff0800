import Derived.Test.YgvadwGreatKa
namespace Go.Proofs.YgvadwGreat
set_option linter.unusedSimpArgs false
set_option linter.unusedVariables false
theorem UT.other {b : Nat} {T : TypeId} {L L' : List Int} {w w' : World} (h : UT b T L w w' L') {x : Nat} {o : Obj} (hx : Hb w x o) (hn : x ≠ b) : Hb w' x o := ⟨by rw [h.keep.old x hx.lt hn]; exact hx.h⟩
theorem xt_part {k : IntKind} {r : Array Value} {o n : Nat} {M : List Int} (h : Xt r o (o + n) (ic k M)) (i l : Nat) (hil : i + l ≤ n) : Xt r (o + i) (o + i + l) (ic k ((M.drop i).take l)) := by
  refine ⟨?_⟩
  have e := h.h
  refine Array.ext_getElem? fun j => ?_
  have ej : ∀ j : Nat, (r.extract o (o + n))[j]? = (ic k M)[j]? := fun j => by rw [e]
  by_cases hj : j < l
  · have h1 := ej (i + j)
    rw [Array.getElem?_extract, ic_get] at h1
    rw [Array.getElem?_extract, ic_get, List.getElem?_take, if_pos hj, List.getElem?_drop, ← h1]
    have e1 : i + j < min (o + n) r.size - o ↔ j < min (o + i + l) r.size - (o + i) := by omega
    by_cases h2 : i + j < min (o + n) r.size - o
    · rw [if_pos h2, if_pos (e1.1 h2), Nat.add_assoc]
    · rw [if_neg h2, if_neg (fun h => h2 (e1.2 h))]
  · rw [Array.getElem?_extract, if_neg (by omega), ic_get, List.getElem?_take, if_neg hj]; rfl
theorem UT.ext0 {b : Nat} {T : TypeId} {L L' : List Int} {w0 w w' : World} (he : Ext w0 w) (h : UT b T L w w' L') (hb : w0.heap.size ≤ b) : Ext w0 w' :=
  ⟨Nat.le_trans he.1 h.keep.sz, fun x hx => (h.keep.old x (Nat.lt_of_lt_of_le hx he.1) (by omega)).trans (he.2 x hx), h.keep.en.1.trans he.3.1, h.keep.en.2.1.trans he.3.2.1, h.keep.en.2.2.trans he.3.2.2⟩
theorem list8 {l : List Int} (h : l.length = 8) : ∃ a b c d e f g i, l = [a, b, c, d, e, f, g, i] := by
  match l, h with
  | [a, b, c, d, e, f, g, i], _ => exact ⟨a, b, c, d, e, f, g, i, rfl⟩

set_option maxRecDepth 10000 in
theorem keccakF_spec (b : Nat) (T : TypeId) (L : List Int) (w : World) (hb : Hb w b (.cells (ic .u64 L) T (0, 0))) (hl : L.length = 25) : Ret Hvad.prog 219 #[.pointer (some ⟨b, 0, none⟩)] w fun u w' => u = .tuple #[] ∧ ∃ L', UT b T L w w' L' := by
  refine Ret_of_W Hvad.func219 rfl rfl ?_
  refine W_seq ?_
  refine W_seq ?_
  refine W_region rfl ?_
  refine WO_p (PS_move_ptr rfl) ?_
  refine WO_p (PS_eqlnil Hvad.underlying197 rfl) ?_
  refine WO_nil ?_
  refine thn_normal ?_
  refine W_if rfl (fun hb2 => ?_) (fun hb2 => ?_)
  · have hb2p := hb2.h; try simp only [al_ete, al_dfn, Bool.not_eq_true', Bool.not_eq_false', al_ne, Bool.not_not, al_nn] at hb2p
    simp at hb2p --END
  · have hb2p := hb2.h; try simp only [al_ete, al_dfn, Bool.not_eq_true', Bool.not_eq_false', al_ne, Bool.not_not, al_nn] at hb2p
    refine W_skip ?_
    refine thn_normal ?_
    refine W_seq ?_
    refine W_region rfl ?_
    refine WO_p (PS_assign_int rfl) ?_
    refine WO_nil ?_
    refine thn_normal ?_
    refine W_block ?_
    refine W_loopN (fun m ρ w' => ∃ (i : Nat) (L2 : List Int), i + m = 24 ∧ L2.length = 25 ∧ Fr [(0, .pointer (some ⟨b, 0, none⟩)), (2, .int .u8 i)] ρ ∧ UT b T L w w' L2) 24 ?_ ?_
    · exact ⟨0, L, by omega, hl, ⟨rfl, rfl, trivial⟩, UT.refl hb⟩
    intro m ρ w2 hI
    obtain ⟨i, L2, him, hl2, hF, hU2⟩ := hI
    refine W_env _ hF ?_
    have hb2 := hU2.hb
    refine W_seq ?_
    refine W_seq ?_
    refine W_region rfl ?_
    refine WO_p (PS_move_int rfl) ?_
    refine WO_p (PS_lss rfl rfl) ?_
    refine WO_nil ?_
    refine thn_normal ?_
    refine W_if rfl (fun hb4 => ?_) (fun hb4 => ?_)
    · have hb4p := hb4.h; try simp only [al_ete, al_dfn, Bool.not_eq_true', Bool.not_eq_false', al_ne, Bool.not_not, al_nn] at hb4p
      refine W_skip ?_
      refine thn_normal ?_
      refine W_seq ?_
      refine W_block ?_
      refine W_seq ?_
      refine W_region rfl ?_
      refine WO_p (PS_move_ptr rfl) ?_
      refine WO_call Hvad.call266 (by rfl) (Ret.mono (round_spec b T L2 _ hb2 hl2) ?_)
      rintro _ w3 ⟨rfl, L3, hU3⟩
      have hb3 := hU3.hb
      have hl3 : L3.length = 25 := hU3.len.trans hl2
      have hz3 := hU3.keep.sz
      have hce0 : Ce (ic .u64 L3) (0 + (0 : Int).toNat * 1) (.int .u64 (L3.getD 0 0)) := ce_ic (by omega)
      refine WO_nil ?_
      refine thn_normal ?_
      refine W_drawE [false, false, false, false, false, true, false, false, false, false] hmix (by kernel_rfl) rfl ?_
      refine WH_p (PS_move_ptr rfl) rfl ?_
      refine WH_p (PS_nilCheck rfl) rfl ?_
      refine WH_p (PS_indexA Hvad.runUnderlying195 Hvad.sizeOf26 rfl rfl (by omega) (by omega)) rfl ?_
      refine WH_load (.int _ _) Hvad.isAgg26 rfl (Hb.h (by repeat (first | assumption | exact Hb.newY _ _ | refine Hb.alloc ?_ | refine Hb.drew ?_ | refine Hb.ext (by assumption) ?_ | exact Hb.setSameL (by first | omega | (simp only [size_alloc, size_setB, size_drew]; omega)) | exact Hb.setSame (by assumption) | refine Hb.set (by first | omega | (simp only [size_alloc, size_setB, size_drew]; omega)) ?_ ))) (Ce.h (by first | assumption | exact ⟨rfl⟩)) ?_
      refine WH_p (PS_move_int rfl) rfl ?_
      refine WH_call Hvad.call267 (by rfl) (Ret.mono (rc_spec _ _ (by omega)) ?_)
      rintro _ w267_5 ⟨hE267_5, r267_5, rfl⟩
      refine ⟨fun _ => (by repeat (first | assumption | exact Ext.refl _ | refine Ext.alloc ?_ _ | refine Ext.drew ?_ | refine Ext.setB ?_ (by first | omega | (simp only [size_alloc, size_setB, size_drew]; omega)) _ | exact Ext.trans (by assumption) (by assumption) | refine Ext.trans ?_ (by assumption))), ?_⟩
      have hz267_5 := hE267_5.1
      try simp only [size_alloc, size_setB, size_drew] at hz267_5
      refine WH_p (PS_xor_u64 rfl rfl) rfl ?_
      refine WH_p (PS_nilCheck rfl) rfl ?_
      refine WH_p (PS_indexA Hvad.runUnderlying195 Hvad.sizeOf26 rfl rfl (by omega) (by omega)) rfl ?_
      refine WH_storeU Hvad.sizeOf26 rfl rfl (Hb.mk (Hb.h (by repeat (first | assumption | exact Hb.newY _ _ | refine Hb.alloc ?_ | refine Hb.drew ?_ | refine Hb.ext (by assumption) ?_ | exact Hb.setSameL (by first | omega | (simp only [size_alloc, size_setB, size_drew]; omega)) | exact Hb.setSame (by assumption) | refine Hb.set (by first | omega | (simp only [size_alloc, size_setB, size_drew]; omega)) ?_ )))) (by rw [hl3]; decide) (bXor_bd _ _) ?_
      intro w4 L4 hU4
      refine ⟨(fun h => by cases h), ?_⟩
      refine WH_nil ?_
      refine inBlk_normal ?_
      refine thn_normal ?_
      refine W_region rfl ?_
      refine WO_p (PS_move_int rfl) ?_
      refine WO_p (PS_add_u8n rfl rfl (by omega) (by omega)) ?_
      refine WO_p (PS_assign_int rfl) ?_
      refine WO_nil ?_
      refine thn_normal ?_
      exact ⟨m - 1, by omega, i + 1, L4, by omega, hU4.len.trans hl3, ⟨rfl, congrArg (Value.int .u8) (by omega), trivial⟩, hU2.trans (hU3.trans (UT.pre (by repeat (first | assumption | exact Ext.refl _ | refine Ext.alloc ?_ _ | refine Ext.drew ?_ | refine Ext.setB ?_ (by first | omega | (simp only [size_alloc, size_setB, size_drew]; omega)) _ | refine Ext.trans ?_ (by assumption))) hU4))⟩
    · have hb4p := hb4.h; try simp only [al_ete, al_dfn, Bool.not_eq_true', Bool.not_eq_false', al_ne, Bool.not_not, al_nn] at hb4p
      refine W_exit ?_
      refine thn_exit ?_
      refine thn_exit ?_
      refine inBlk_exit ?_
      first | refine bodyQ_ret0 Hvad.results219 ?_ | refine bodyQ_end0 Hvad.results219 ?_
      exact ⟨rfl, L2, hU2⟩

set_option maxRecDepth 10000 in
theorem absorb_spec (b bk o : Nat) (T Tk : TypeId) (L M : List Int) (r : Array Value) (fz : Nat × Nat) (w : World) (hb : Hb w b (.cells (ic .u64 L) T (0, 0))) (hl : L.length = 25) (hk : Hb w bk (.cells r Tk fz)) (hx : Xt r o (o + 136) (ic .u8 M)) (hM : By M 136) (hsz : o + 136 ≤ r.size) (hne : bk ≠ b) : Ret Hvad.prog 119 #[.pointer (some ⟨b, 0, none⟩), .pointer (some ⟨bk, o, none⟩)] w fun u w' => u = .tuple #[] ∧ ∃ L', UT b T L w w' L' := by
  refine Ret_of_W Hvad.func119 rfl rfl ?_
  refine W_seq ?_
  refine W_seq ?_
  refine W_region rfl ?_
  refine WO_p (PS_assign_int rfl) ?_
  refine WO_nil ?_
  refine thn_normal ?_
  refine W_block ?_
  refine W_loopN (fun m ρ w' => ∃ (i : Nat) (L2 : List Int), i + m = 17 ∧ L2.length = 25 ∧ Fr [(0, .pointer (some ⟨b, 0, none⟩)), (1, .pointer (some ⟨bk, o, none⟩)), (4, .int .i64 i)] ρ ∧ UT b T L w w' L2) 17 ?_ ?_
  · exact ⟨0, L, by omega, hl, ⟨rfl, rfl, rfl, trivial⟩, UT.refl hb⟩
  intro m ρ w2 hI
  obtain ⟨i, L2, him, hl2, hF, hU2⟩ := hI
  refine W_env _ hF ?_
  have hbb2 := hU2.hb
  have hk2 := hU2.other hk hne
  refine W_seq ?_
  refine W_seq ?_
  refine W_region rfl ?_
  refine WO_p (PS_move_int rfl) ?_
  refine WO_p (PS_lss rfl rfl) ?_
  refine WO_nil ?_
  refine thn_normal ?_
  refine W_if rfl (fun hb2 => ?_) (fun hb2 => ?_)
  · have hb2p := hb2.h; try simp only [al_ete, al_dfn, Bool.not_eq_true', Bool.not_eq_false', al_ne, Bool.not_not, al_nn] at hb2p
    have hml := hM.1
    obtain ⟨p0, p1, p2, p3, p4, p5, p6, p7, hp⟩ := list8 (l := (M.drop (8 * i)).take 8) (by simp; omega)
    have hx8 := xt_part hx (8 * i) 8 (by omega)
    rw [hp] at hx8
    rw [show 8 * i = (8 * (i : Int)).toNat * 1 from by omega] at hx8
    have hbp : ∀ x ∈ [p0, p1, p2, p3, p4, p5, p6, p7], 0 ≤ x ∧ x ≤ 255 := fun x hx => hM.2 x (List.mem_of_mem_drop (List.mem_of_mem_take (hp ▸ hx)))
    have hq0 := hbp p0 (by simp)
    have hq1 := hbp p1 (by simp)
    have hq2 := hbp p2 (by simp)
    have hq3 := hbp p3 (by simp)
    have hq4 := hbp p4 (by simp)
    have hq5 := hbp p5 (by simp)
    have hq6 := hbp p6 (by simp)
    have hq7 := hbp p7 (by simp)
    have hce : Ce (ic .u64 L2) (0 + i * 1) (.int .u64 (L2.getD i 0)) := ce_ic (by omega)
    refine W_skip ?_
    refine thn_normal ?_
    refine W_seq ?_
    refine W_block ?_
    refine W_seq ?_
    refine W_region rfl ?_
    refine WO_p (PS_move_ptr rfl) ?_
    refine WO_p (PS_nilCheck rfl) ?_
    refine WO_p (PS_slA Hvad.runUnderlying199 Hvad.sizeOf5 rfl (by omega)) ?_
    refine WO_p (PS_move_int rfl) ?_
    refine WO_p (PS_mul_i64n rfl rfl (by omega) (by omega)) ?_
    refine WO_call Hvad.call80 (by rfl) (Ret.mono (be64_spec bk o 136 136 (8 * (i : Int)) p0 p1 p2 p3 p4 p5 p6 p7 r Tk fz _ (Hb.mk (Hb.h (by repeat (first | assumption | exact Hb.newY _ _ | refine Hb.alloc ?_ | refine Hb.drew ?_ | refine Hb.ext (by assumption) ?_ | exact Hb.setSameL (by first | omega | (simp only [size_alloc, size_setB, size_drew]; omega)) | exact Hb.setSame (by assumption) | refine Hb.set (by first | omega | (simp only [size_alloc, size_setB, size_drew]; omega)) ?_ )))) hx8 (by omega) (by omega) (by omega) (by omega) (by omega) hq0 hq1 hq2 hq3 hq4 hq5 hq6 hq7) ?_)
    rintro _ w3 ⟨rfl, hE3⟩
    have hz3 := hE3.1
    have hbe := be8_bd hq0 hq1 hq2 hq3 hq4 hq5 hq6 hq7
    have hb3 := Hb.ext hE3 hbb2
    refine WO_p (PS_move_tuple rfl) ?_
    refine WO_p (PS_extract_int rfl rfl) ?_
    refine WO_p (PS_extract_bool rfl rfl) ?_
    refine WO_p (PS_assign_int rfl) ?_
    refine WO_p (PS_assign_bool rfl) ?_
    refine WO_nil ?_
    refine thn_normal ?_
    refine W_drawE [false, false, false, false, false, false, true, false, false, false, false] hmix (by kernel_rfl) rfl ?_
    refine WH_p (PS_move_ptr rfl) rfl ?_
    refine WH_p (PS_move_int rfl) rfl ?_
    refine WH_p (PS_nilCheck rfl) rfl ?_
    refine WH_p (PS_indexA Hvad.runUnderlying195 Hvad.sizeOf26 rfl rfl (by omega) (by omega)) rfl ?_
    refine WH_load (.int _ _) Hvad.isAgg26 rfl (Hb.h (by repeat (first | assumption | exact Hb.newY _ _ | refine Hb.alloc ?_ | refine Hb.drew ?_ | refine Hb.ext (by assumption) ?_ | exact Hb.setSameL (by first | omega | (simp only [size_alloc, size_setB, size_drew]; omega)) | exact Hb.setSame (by assumption) | refine Hb.set (by first | omega | (simp only [size_alloc, size_setB, size_drew]; omega)) ?_ ))) (Ce.h (by first | assumption | exact ⟨rfl⟩)) ?_
    refine WH_p (PS_move_int rfl) rfl ?_
    refine WH_call Hvad.call121 (by rfl) (Ret.mono (turned_spec _ _ (by omega)) ?_)
    rintro _ w121_4 ⟨hE121_4, r121_4, rfl, hr121_4⟩
    refine ⟨fun _ => (by repeat (first | assumption | exact Ext.refl _ | refine Ext.alloc ?_ _ | refine Ext.drew ?_ | refine Ext.setB ?_ (by first | omega | (simp only [size_alloc, size_setB, size_drew]; omega)) _ | exact Ext.trans (by assumption) (by assumption) | refine Ext.trans ?_ (by assumption))), ?_⟩
    have hz121_4 := hE121_4.1
    try simp only [size_alloc, size_setB, size_drew] at hz121_4
    refine WH_p (PS_xor_u64 rfl rfl) rfl ?_
    refine WH_p (PS_nilCheck rfl) rfl ?_
    refine WH_p (PS_indexA Hvad.runUnderlying195 Hvad.sizeOf26 rfl rfl (by omega) (by omega)) rfl ?_
    refine WH_storeU Hvad.sizeOf26 rfl rfl (Hb.mk (Hb.h (by repeat (first | assumption | exact Hb.newY _ _ | refine Hb.alloc ?_ | refine Hb.drew ?_ | refine Hb.ext (by assumption) ?_ | exact Hb.setSameL (by first | omega | (simp only [size_alloc, size_setB, size_drew]; omega)) | exact Hb.setSame (by assumption) | refine Hb.set (by first | omega | (simp only [size_alloc, size_setB, size_drew]; omega)) ?_ )))) (by omega) (bXor_bd _ _) ?_
    intro w4 L4 hU4
    refine ⟨(fun h => by cases h), ?_⟩
    refine WH_nil ?_
    refine inBlk_normal ?_
    refine thn_normal ?_
    refine W_region rfl ?_
    refine WO_p (PS_move_int rfl) ?_
    refine WO_p (PS_add_i64n rfl rfl (by omega) (by omega)) ?_
    refine WO_p (PS_assign_int rfl) ?_
    refine WO_nil ?_
    refine thn_normal ?_
    exact ⟨m - 1, by omega, i + 1, L4, by omega, hU4.len.trans hl2, ⟨rfl, rfl, congrArg (Value.int .i64) (by omega), trivial⟩, hU2.trans (UT.pre (by repeat (first | assumption | exact Ext.refl _ | refine Ext.alloc ?_ _ | refine Ext.drew ?_ | refine Ext.setB ?_ (by first | omega | (simp only [size_alloc, size_setB, size_drew]; omega)) _ | refine Ext.trans ?_ (by assumption))) hU4)⟩
  · have hb2p := hb2.h; try simp only [al_ete, al_dfn, Bool.not_eq_true', Bool.not_eq_false', al_ne, Bool.not_not, al_nn] at hb2p
    refine W_exit ?_
    refine thn_exit ?_
    refine thn_exit ?_
    refine inBlk_exit ?_
    refine thn_normal ?_
    refine W_region rfl ?_
    refine WO_p (PS_move_ptr rfl) ?_
    refine WO_call Hvad.call219 (by rfl) (Ret.mono (keccakF_spec b T L2 _ hbb2 hl2) ?_)
    rintro _ w9 ⟨rfl, L9, hU9⟩
    refine WO_nil ?_
    first | refine bodyQ_ret0 Hvad.results119 ?_ | refine bodyQ_end0 Hvad.results119 ?_
    exact ⟨rfl, L9, hU2.trans hU9⟩


theorem SC.tailE {w : World} {s : SV} {L : List Int} (h : SC w .u8 1 s L) (f : Nat) (hf : f ≤ s.2.1) (hc : s.2.1 ≤ s.2.2) : SC w .u8 1 (slp' s.1 f s.2.2 1, s.2.1 - f, s.2.2 - f) (L.drop f) := by
  rcases Nat.lt_or_eq_of_le hf with h1 | h1
  · exact h.tail f h1 hc
  · obtain ⟨h2, h3⟩ := h
    simp only [Nat.mul_one] at h2 h3
    refine ⟨by simp [h2], ?_⟩
    have hd : L.drop f = [] := List.drop_eq_nil_of_le (by omega)
    rw [hd]
    rcases h3 with ⟨h3, h4⟩ | ⟨b, o, r, T, fz, h3, h4, h5, h6⟩
    · exact Or.inl ⟨by show slp' s.1 f s.2.2 1 = none; unfold slp'; rw [h3]; split <;> rfl, by show s.2.1 - f = 0; omega⟩
    · have hz : s.2.1 - f = 0 := by omega
      refine Or.inr ?_
      show ∃ b o r T fz, slp' s.1 f s.2.2 1 = some ⟨b, o, none⟩ ∧ _
      rw [h3]
      by_cases hcf : s.2.2 = f
      · refine ⟨b, o, r, T, fz, by unfold slp'; rw [if_pos hcf], h4, by show o + (s.2.1 - f) * 1 ≤ _; omega, ⟨by show _ = _; rw [show (s.2.1 - f) = 0 from hz]; simp [ic]; omega⟩⟩
      · refine ⟨b, o + f * 1, r, T, fz, slp'_some (by omega), h4, by show o + f * 1 + (s.2.1 - f) * 1 ≤ _; omega, ⟨by show _ = _; rw [show (s.2.1 - f) = 0 from hz]; simp [ic]; omega⟩⟩

set_option maxRecDepth 10000 in
set_option maxHeartbeats 4000000 in
theorem sum_spec (s : SV) (L : List Int) (w : World) (hs : SC w .u8 1 s L) (hL : By8 L) (hc : s.2.1 ≤ s.2.2) (hl : s.2.1 ≤ 1000000) : Ret Hvad.prog 69 #[.slice s.1 s.2.1 s.2.2] w fun u w' => Ext w w' ∧ ∃ R, u = .agg (ic .u8 R) ∧ By R 32 := by
  refine Ret_of_W Hvad.func69 rfl rfl ?_
  refine W_seq ?_
  refine W_region rfl ?_
  refine WO_allocG Hvad.zeroValue27 ?_
  intro b2 v2 hg2 hE2 hH2 hl2
  try simp only [size_alloc, size_setB, size_drew] at hg2
  have hzz2 := hE2.1
  try simp only [size_alloc, size_setB, size_drew] at hzz2
  replace hH2 : Hb v2 b2 (.cells (ic .u8 (List.replicate 32 0)) 27 (0, 0)) := hH2
  refine WO_nil ?_
  refine thn_normal ?_
  refine W_seq ?_
  refine W_region rfl ?_
  refine WO_allocG Hvad.zeroValue195 ?_
  intro b3 v3 hg3 hE3 hH3 hl3
  try simp only [size_alloc, size_setB, size_drew] at hg3
  have hzz3 := hE3.1
  try simp only [size_alloc, size_setB, size_drew] at hzz3
  replace hH3 : Hb v3 b3 (.cells (ic .u64 (List.replicate 25 0)) 195 (0, 0)) := hH3
  refine WO_nil ?_
  refine thn_normal ?_
  refine W_seq ?_
  refine W_block ?_
  refine W_loopN (fun k ρ w' => ∃ (p : Option Addr) (n cp : Nat) (M L2 : List Int), n = k ∧ n ≤ 1000000 ∧ n ≤ cp ∧ SC w .u8 1 (p, n, cp) M ∧ By8 M ∧ L2.length = 25 ∧ UL L2 ∧ Fr [(0, .slice p n cp), (2, .pointer (some ⟨b2, 0, none⟩)), (3, .pointer (some ⟨b3, 0, none⟩))] ρ ∧ Ext w w' ∧ v3.heap.size ≤ w'.heap.size ∧ Hb w' b3 (.cells (ic .u64 L2) 195 (0, 0)) ∧ Hb w' b2 (.cells (ic .u8 (List.replicate 32 0)) 27 (0, 0))) s.2.1 ?_ ?_
  · exact ⟨s.1, s.2.1, s.2.2, L, _, rfl, hl, hc, hs, hL, by simp, (fun x hx => by rw [List.eq_of_mem_replicate hx]; decide), ⟨rfl, rfl, rfl, trivial⟩, (by repeat (first | assumption | exact Ext.refl _ | refine Ext.alloc ?_ _ | refine Ext.drew ?_ | refine Ext.setB ?_ (by first | omega | (simp only [size_alloc, size_setB, size_drew]; omega)) _ | refine Ext.trans ?_ (by assumption))), Nat.le_refl _, hH3, Hb.ext hE3 hH2⟩
  intro k ρ w2 hI2
  obtain ⟨p, n, cp, M, L2, hnk, hn1, hcp, hsc, hM, hl2, hL2, hFr, hE2, hz32, hb2L, hb22⟩ := hI2
  refine W_env _ hFr ?_
  have hz2 := hE2.1
  have hMl : M.length = n := by have := hsc.1; simpa using this
  refine W_seq ?_
  refine W_seq ?_
  refine W_region rfl ?_
  refine WO_p (PS_move_slice rfl) ?_
  refine WO_p (PS_lenS Hvad.runUnderlying32 rfl) ?_
  refine WO_p (PS_geq rfl rfl) ?_
  refine WO_nil ?_
  refine thn_normal ?_
  refine W_if rfl (fun hb2 => ?_) (fun hb2 => ?_)
  · have hb2p := hb2.h; try simp only [al_ete, al_dfn, Bool.not_eq_true', Bool.not_eq_false', al_ne, Bool.not_not, al_nn] at hb2p
    obtain ⟨hsl, hs2⟩ := id hsc
    simp only [Nat.mul_one] at hsl hs2
    obtain ⟨bk, o, r, Tk, fz, hp, hbk, hszk, hxt⟩ := hs2.resolve_left (fun h => by omega)
    subst hp
    have hbkl := hbk.lt
    have hxt6 : Xt r o (o + 136) (ic .u8 (M.take 136)) := by have := xt_part hxt 0 136 (by omega); simpa using this
    have hM6 : By (M.take 136) 136 := ⟨by simp; omega, fun z hz => hM z (List.mem_of_mem_take hz)⟩
    refine W_skip ?_
    refine thn_normal ?_
    refine W_block ?_
    refine W_seq ?_
    refine W_region rfl ?_
    refine WO_p (PS_move_slice rfl) ?_
    refine WO_p (PS_slS_h Hvad.runUnderlying32 Hvad.sizeOf5 rfl rfl (by omega) (by omega) (by omega)) ?_
    refine WO_p (PS_arrayAt Hvad.runUnderlying199 rfl (by omega)) ?_
    refine WO_call Hvad.call119 (by rfl) (Ret.mono (absorb_spec b3 bk o 195 Tk L2 (M.take 136) r fz _ hb2L hl2 (Hb.mk (Hb.h (by repeat (first | assumption | exact Hb.newY _ _ | refine Hb.alloc ?_ | refine Hb.drew ?_ | refine Hb.ext (by assumption) ?_ | exact Hb.setSameL (by first | omega | (simp only [size_alloc, size_setB, size_drew]; omega)) | exact Hb.setSame (by assumption) | refine Hb.set (by first | omega | (simp only [size_alloc, size_setB, size_drew]; omega)) ?_ )))) hxt6 hM6 (by omega) (by omega)) ?_)
    rintro _ w9 ⟨rfl, L9, hU9⟩
    have hz9 := hU9.keep.sz
    have hE9 : Ext w w9 := UT.ext0 hE2 hU9 (by omega)
    have hb29 := hU9.other hb22 (by omega)
    refine WO_nil ?_
    refine thn_normal ?_
    refine W_region rfl ?_
    refine WO_p (PS_move_slice rfl) ?_
    refine WO_p (PS_slG_l Hvad.runUnderlying32 Hvad.sizeOf5 rfl rfl (by omega) (by omega)) ?_
    refine WO_p (PS_assign_slice rfl) ?_
    refine WO_nil ?_
    refine inBlk_normal ?_
    refine thn_normal ?_
    exact ⟨n - 136, by omega, slp' (some ⟨bk, o, none⟩) 136 cp 1, n - 136, cp - 136, M.drop 136, L9, by omega, by omega, by omega, SC.tailE hsc 136 (by show 136 ≤ n; omega) hcp, fun z hz => hM z (List.mem_of_mem_drop hz), hU9.len.trans hl2, hU9.ty hL2, ⟨rfl, rfl, rfl, trivial⟩, hE9, by omega, hU9.hb, hb29⟩
  · have hb2p := hb2.h; try simp only [al_ete, al_dfn, Bool.not_eq_true', Bool.not_eq_false', al_ne, Bool.not_not, al_nn] at hb2p
    refine W_exit ?_
    refine thn_exit ?_
    refine thn_exit ?_
    refine inBlk_exit ?_
    refine thn_normal ?_
    refine W_seq ?_
    refine W_region rfl ?_
    refine WO_allocG Hvad.zeroValue199 ?_
    intro b4 v4 hg4 hE4 hH4 hl4
    try simp only [size_alloc, size_setB, size_drew] at hg4
    have hzz4 := hE4.1
    try simp only [size_alloc, size_setB, size_drew] at hzz4
    replace hH4 : Hb v4 b4 (.cells (ic .u8 (List.replicate 136 0)) 199 (0, 0)) := hH4
    refine WO_nil ?_
    refine thn_normal ?_
    refine W_seq ?_
    refine W_region rfl ?_
    refine WO_p (PS_slA Hvad.runUnderlying199 Hvad.sizeOf5 rfl (by omega)) ?_
    refine WO_p (PS_move_slice rfl) ?_
    refine WO_copyT (b2 := 0) (b := b4) (o := 0) Hvad.runUnderlying32 Hvad.sizeOf5 rfl rfl (fun _ => rfl) hH4 (by simp) (SC.ext hsc (by repeat (first | assumption | exact Ext.refl _ | refine Ext.alloc ?_ _ | refine Ext.drew ?_ | refine Ext.setB ?_ (by first | omega | (simp only [size_alloc, size_setB, size_drew]; omega)) _ | exact Ext.trans (by assumption) (by assumption) | refine Ext.trans ?_ (by assumption)))) hM ?_
    intro w6 L6 hT6
    have hC6 := hT6.hb
    have hl6 : L6.length = 136 := by rw [hT6.len]; simp
    have hz6 := hT6.keep.sz
    refine WO_nil ?_
    refine thn_normal ?_
    refine W_seq ?_
    refine W_region rfl ?_
    refine WO_p (PS_move_slice rfl) ?_
    refine WO_p (PS_lenS Hvad.runUnderlying32 rfl) ?_
    refine WO_p (PS_indexA Hvad.runUnderlying199 Hvad.sizeOf5 rfl rfl (by omega) (by omega)) ?_
    refine WO_storeB Hvad.sizeOf5 rfl rfl hC6 (by omega) (by decide) ?_
    intro w7 L7 hT7
    have hC7 := hT7.hb
    have hl7 : L7.length = 136 := hT7.len.trans hl6
    have hz7 := hT7.keep.sz
    have hce7 : Ce (ic .u8 L7) (0 + (135 : Int).toNat * 1) (.int .u8 (L7.getD 135 0)) := ce_ic (by omega)
    refine WO_nil ?_
    refine thn_normal ?_
    refine W_seq ?_
    refine W_region rfl ?_
    refine WO_p (PS_indexA Hvad.runUnderlying199 Hvad.sizeOf5 rfl rfl (by omega) (by omega)) ?_
    refine WO_load (.int _ _) Hvad.isAgg5 rfl (Hb.h (by repeat (first | assumption | exact Hb.newY _ _ | refine Hb.alloc ?_ | refine Hb.drew ?_ | refine Hb.ext (by assumption) ?_ | exact Hb.setSameL (by first | omega | (simp only [size_alloc, size_setB, size_drew]; omega)) | exact Hb.setSame (by assumption) | refine Hb.set (by first | omega | (simp only [size_alloc, size_setB, size_drew]; omega)) ?_ ))) (Ce.h (by first | assumption | exact ⟨rfl⟩)) ?_
    refine WO_p (PS_or_u8 rfl rfl) ?_
    refine WO_p (PS_indexA Hvad.runUnderlying199 Hvad.sizeOf5 rfl rfl (by omega) (by omega)) ?_
    refine WO_storeB Hvad.sizeOf5 rfl rfl hC7 (by omega) (bOr8_bd _ _) ?_
    intro w8 L8 hT8
    have hC8 := hT8.hb
    have hL8 : By L8 136 := ⟨hT8.len.trans hl7, hT8.ty (hT7.ty (hT6.ty (by_zero 136)))⟩
    have hz8 := hT8.keep.sz
    have hx8 : Xt (ic .u8 L8) 0 (0 + 136) (ic .u8 L8) := by have h := Xt.ic .u8 L8 0 136 (by have := hL8.1; omega); rwa [List.drop_zero, List.take_of_length_le (by have := hL8.1; omega)] at h
    have hb8L := hT8.other (hT7.other (hT6.other (Hb.ext hE4 hb2L) (by omega)) (by omega)) (by omega)
    have hb28 := hT8.other (hT7.other (hT6.other (Hb.ext hE4 hb22) (by omega)) (by omega)) (by omega)
    have hE8 : Ext w w8 := hT8.ext (hT7.ext (hT6.ext (by repeat (first | assumption | exact Ext.refl _ | refine Ext.alloc ?_ _ | refine Ext.drew ?_ | refine Ext.setB ?_ (by first | omega | (simp only [size_alloc, size_setB, size_drew]; omega)) _ | exact Ext.trans (by assumption) (by assumption) | refine Ext.trans ?_ (by assumption))) (by omega)) (by omega)) (by omega)
    refine WO_nil ?_
    refine thn_normal ?_
    refine W_seq ?_
    refine W_region rfl ?_
    refine WO_call Hvad.call119 (by rfl) (Ret.mono (absorb_spec b3 b4 0 195 199 L2 L8 (ic .u8 L8) (0, 0) _ hb8L hl2 hC8 hx8 hL8 (by rw [size_ic, hL8.1]; decide) (by omega)) ?_)
    rintro _ w9 ⟨rfl, L9, hU9⟩
    have hz9 := hU9.keep.sz
    have hE9 : Ext w w9 := UT.ext0 hE8 hU9 (by omega)
    have hb29 := hU9.other hb28 (by omega)
    have hb9 := hU9.hb
    have hl9 := hU9.len.trans hl2
    have hL9 := hU9.ty hL2
    refine WO_nil ?_
    refine thn_normal ?_
    refine W_seq ?_
    refine W_region rfl ?_
    refine WO_allocG Hvad.zeroValue27 ?_
    intro b5 v5 hg5 hE5 hH5 hl5
    try simp only [size_alloc, size_setB, size_drew] at hg5
    have hzz5 := hE5.1
    try simp only [size_alloc, size_setB, size_drew] at hzz5
    replace hH5 : Hb v5 b5 (.cells (ic .u8 (List.replicate 32 0)) 27 (0, 0)) := hH5
    refine WO_nil ?_
    refine thn_normal ?_
    refine W_seq ?_
    refine W_seq ?_
    refine W_region rfl ?_
    refine WO_p (PS_assign_int rfl) ?_
    refine WO_nil ?_
    refine thn_normal ?_
    refine W_block ?_
    refine W_loopN (fun k ρ w' => ∃ (i : Nat) (L6 : List Int), i + k = 4 ∧ By L6 32 ∧ Fr [(2, .pointer (some ⟨b2, 0, none⟩)), (3, .pointer (some ⟨b3, 0, none⟩)), (5, .pointer (some ⟨b5, 0, none⟩)), (6, .int .i64 i)] ρ ∧ Ext w w' ∧ v5.heap.size ≤ w'.heap.size ∧ Hb w' b3 (.cells (ic .u64 L9) 195 (0, 0)) ∧ Hb w' b2 (.cells (ic .u8 (List.replicate 32 0)) 27 (0, 0)) ∧ Hb w' b5 (.cells (ic .u8 L6) 27 (0, 0))) 4 ?_ ?_
    · exact ⟨0, List.replicate 32 0, rfl, ⟨by simp, by_zero 32⟩, ⟨rfl, rfl, rfl, rfl, trivial⟩, (by repeat (first | assumption | exact Ext.refl _ | refine Ext.alloc ?_ _ | refine Ext.drew ?_ | refine Ext.setB ?_ (by first | omega | (simp only [size_alloc, size_setB, size_drew]; omega)) _ | refine Ext.trans ?_ (by assumption))), Nat.le_refl _, Hb.ext hE5 hb9, Hb.ext hE5 hb29, hH5⟩
    intro k2 ρ2 w5 hI5
    obtain ⟨i, L6, hik, hL6, hFr5, hE55, hz55, hb53, hb52, hb55⟩ := hI5
    refine W_env _ hFr5 ?_
    have hz5 := hE55.1
    have hl6 := hL6.1
    have hl25 := hL9.get i
    refine W_seq ?_
    refine W_seq ?_
    refine W_region rfl ?_
    refine WO_p (PS_move_int rfl) ?_
    refine WO_p (PS_lss rfl rfl) ?_
    refine WO_nil ?_
    refine thn_normal ?_
    refine W_if rfl (fun hb6 => ?_) (fun hb6 => ?_)
    · have hb6p := hb6.h; try simp only [al_ete, al_dfn, Bool.not_eq_true', Bool.not_eq_false', al_ne, Bool.not_not, al_nn] at hb6p
      have hce : Ce (ic .u64 L9) (0 + i * 1) (.int .u64 (L9.getD i 0)) := ce_ic (by omega)
      refine W_skip ?_
      refine thn_normal ?_
      refine W_seq ?_
      refine W_block ?_
      refine W_drawE [false, false, false, false, false, false, false, false] hmix (by kernel_rfl) rfl ?_
      refine WH_p (PS_slA Hvad.runUnderlying27 Hvad.sizeOf5 rfl (by omega)) rfl ?_
      refine WH_p (PS_move_int rfl) rfl ?_
      refine WH_p (PS_mul_i64n rfl rfl (by omega) (by omega)) rfl ?_
      refine WH_p (PS_move_int rfl) rfl ?_
      refine WH_p (PS_indexA Hvad.runUnderlying195 Hvad.sizeOf26 rfl rfl (by omega) (by omega)) rfl ?_
      refine WH_load (.int _ _) Hvad.isAgg26 rfl (Hb.h (by repeat (first | assumption | exact Hb.newY _ _ | refine Hb.alloc ?_ | refine Hb.drew ?_ | refine Hb.ext (by assumption) ?_ | exact Hb.setSameL (by first | omega | (simp only [size_alloc, size_setB, size_drew]; omega)) | exact Hb.setSame (by assumption) | refine Hb.set (by first | omega | (simp only [size_alloc, size_setB, size_drew]; omega)) ?_ ))) (Ce.h (by first | assumption | exact ⟨rfl⟩)) ?_
      refine WH_call Hvad.call121 (by rfl) (Ret.mono (turned_spec _ _ (hL9.get i)) ?_)
      rintro _ w121_6 ⟨hE121_6, r121_6, rfl, hr121_6⟩
      refine ⟨(fun h => by cases h), ?_⟩
      have hz121_6 := hE121_6.1
      try simp only [size_alloc, size_setB, size_drew] at hz121_6
      refine WH_call Hvad.call120 (by rfl) (Ret.mono (putBE64_spec b5 32 32 (8 * i) 27 L6 _ _ (Hb.mk (Hb.h (by repeat (first | assumption | exact Hb.newY _ _ | refine Hb.alloc ?_ | refine Hb.drew ?_ | refine Hb.ext (by assumption) ?_ | exact Hb.setSameL (by first | omega | (simp only [size_alloc, size_setB, size_drew]; omega)) | exact Hb.setSame (by assumption) | refine Hb.set (by first | omega | (simp only [size_alloc, size_setB, size_drew]; omega)) ?_ )))) (by omega) (by omega) (by omega) (by omega) (by omega)) ?_)
      rintro _ w7 ⟨rfl, hT7⟩
      refine ⟨(fun h => by cases h), ?_⟩
      have hz7 := hT7.keep.sz
      refine WH_nil ?_
      refine inBlk_normal ?_
      refine thn_normal ?_
      refine W_region rfl ?_
      refine WO_p (PS_move_int rfl) ?_
      refine WO_p (PS_add_i64n rfl rfl (by omega) (by omega)) ?_
      refine WO_p (PS_assign_int rfl) ?_
      refine WO_nil ?_
      refine thn_normal ?_
      exact ⟨k2 - 1, by omega, i + 1, _, by omega, ⟨hT7.len.trans hl6, hT7.ty hL6.2⟩, ⟨rfl, rfl, rfl, congrArg (Value.int .i64) (by omega), trivial⟩, hT7.ext (by repeat (first | assumption | exact Ext.refl _ | refine Ext.alloc ?_ _ | refine Ext.drew ?_ | refine Ext.setB ?_ (by first | omega | (simp only [size_alloc, size_setB, size_drew]; omega)) _ | refine Ext.trans ?_ (by assumption))) (by omega), by omega, hT7.other (Hb.mk (Hb.h (by repeat (first | assumption | exact Hb.newY _ _ | refine Hb.alloc ?_ | refine Hb.drew ?_ | refine Hb.ext (by assumption) ?_ | exact Hb.setSameL (by first | omega | (simp only [size_alloc, size_setB, size_drew]; omega)) | exact Hb.setSame (by assumption) | refine Hb.set (by first | omega | (simp only [size_alloc, size_setB, size_drew]; omega)) ?_ )))) (by omega), hT7.other (Hb.mk (Hb.h (by repeat (first | assumption | exact Hb.newY _ _ | refine Hb.alloc ?_ | refine Hb.drew ?_ | refine Hb.ext (by assumption) ?_ | exact Hb.setSameL (by first | omega | (simp only [size_alloc, size_setB, size_drew]; omega)) | exact Hb.setSame (by assumption) | refine Hb.set (by first | omega | (simp only [size_alloc, size_setB, size_drew]; omega)) ?_ )))) (by omega), hT7.hb⟩
    · have hb6p := hb6.h; try simp only [al_ete, al_dfn, Bool.not_eq_true', Bool.not_eq_false', al_ne, Bool.not_not, al_nn] at hb6p
      refine W_exit ?_
      refine thn_exit ?_
      refine thn_exit ?_
      refine inBlk_exit ?_
      refine thn_normal ?_
      refine W_seq ?_
      refine W_region rfl ?_
      refine WO_loadA _ Hvad.isAgg27 Hvad.sizeOf27 rfl (Hb.h (by repeat (first | assumption | exact Hb.newY _ _ | refine Hb.alloc ?_ | refine Hb.drew ?_ | refine Hb.ext (by assumption) ?_ | exact Hb.setSameL (by first | omega | (simp only [size_alloc, size_setB, size_drew]; omega)) | exact Hb.setSame (by assumption) | refine Hb.set (by first | omega | (simp only [size_alloc, size_setB, size_drew]; omega)) ?_ ))) (by first | omega | assumption | rfl | decide | exact Nat.le_refl _ | (simp only [size_ic, Value.cells]; omega) | simp) (Xt.h (by first | assumption | exact Xt.whole rfl rfl | exact Xt.whole rfl (by simp only [size_ic, Value.cells]; omega) | exact ⟨rfl⟩)) ?_
      first | refine WO_storeW Hvad.sizeOf27 rfl (v := .agg _) rfl (Hb.h (by repeat (first | assumption | exact Hb.newY _ _ | refine Hb.alloc ?_ | refine Hb.drew ?_ | refine Hb.ext (by assumption) ?_ | exact Hb.setSameL (by first | omega | (simp only [size_alloc, size_setB, size_drew]; omega)) | exact Hb.setSame (by assumption) | refine Hb.set (by first | omega | (simp only [size_alloc, size_setB, size_drew]; omega)) ?_ ))) rfl (by first | omega | assumption | rfl | decide | exact Nat.le_refl _ | (simp only [size_ic, Value.cells]; omega) | simp) (by first | omega | assumption | rfl | decide | exact Nat.le_refl _ | (simp only [size_ic, Value.cells]; omega) | simp) (by first | exact oneCell_ic | assumption) ?_ | refine WO_store Hvad.sizeOf27 rfl (v := .agg _) rfl (Hb.h (by repeat (first | assumption | exact Hb.newY _ _ | refine Hb.alloc ?_ | refine Hb.drew ?_ | refine Hb.ext (by assumption) ?_ | exact Hb.setSameL (by first | omega | (simp only [size_alloc, size_setB, size_drew]; omega)) | exact Hb.setSame (by assumption) | refine Hb.set (by first | omega | (simp only [size_alloc, size_setB, size_drew]; omega)) ?_ ))) (by first | omega | assumption | rfl | decide | exact Nat.le_refl _ | (simp only [size_ic, Value.cells]; omega) | simp) (by first | omega | assumption | rfl | decide | exact Nat.le_refl _ | (simp only [size_ic, Value.cells]; omega) | simp) (by first | exact oneCell_ic | assumption) ?_
      refine WO_nil ?_
      refine thn_normal ?_
      refine W_ret ?_
      refine bodyQ_cell1 Hvad.results69 rfl Hvad.isAgg27 Hvad.sizeOf27 rfl (Hb.h (by repeat (first | assumption | exact Hb.newY _ _ | refine Hb.alloc ?_ | refine Hb.drew ?_ | refine Hb.ext (by assumption) ?_ | exact Hb.setSameL (by first | omega | (simp only [size_alloc, size_setB, size_drew]; omega)) | exact Hb.setSame (by assumption) | refine Hb.set (by first | omega | (simp only [size_alloc, size_setB, size_drew]; omega)) ?_ ))) (by first | omega | assumption | rfl | decide | exact Nat.le_refl _ | (simp only [size_ic, Value.cells]; omega) | simp) ?_
      exact ⟨(by repeat (first | assumption | exact Ext.refl _ | refine Ext.alloc ?_ _ | refine Ext.drew ?_ | refine Ext.setB ?_ (by first | omega | (simp only [size_alloc, size_setB, size_drew]; omega)) _ | refine Ext.trans ?_ (by assumption))), _, rfl, hL6⟩

end Go.Proofs.YgvadwGreat
