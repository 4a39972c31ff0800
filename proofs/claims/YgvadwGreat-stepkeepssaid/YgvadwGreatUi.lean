import Derived.Test.YgvadwGreatUh
import Derived.Test.YgvadwGreatUd
namespace Go.Proofs.YgvadwGreat
set_option linter.unusedSimpArgs false
set_option linter.unusedVariables false
def UL (L : List Int) : Prop := ∀ x ∈ L, 0 ≤ x ∧ x ≤ 18446744073709551615
theorem UL.get {L : List Int} (h : UL L) (i : Nat) : 0 ≤ L.getD i 0 ∧ L.getD i 0 ≤ 18446744073709551615 := by
  rw [List.getD_eq_getElem?_getD]
  cases hk : L[i]? with
  | none => simp
  | some x => exact h x (List.mem_of_getElem? hk)
theorem UL.set {L : List Int} (h : UL L) (i : Nat) {y : Int} (hy : 0 ≤ y ∧ y ≤ 18446744073709551615) : UL (L.set i y) := by
  intro x hx
  rcases List.mem_or_eq_of_mem_set hx with hx | hx
  · exact h x hx
  · subst hx; exact hy
theorem ce_icO {k : IntKind} {l : List Int} {o i : Nat} (h : o + i < l.length) : Ce (ic k l) (o + i * 1) (.int k (l.getD (o + i) 0)) := by
  refine ⟨?_⟩
  rw [show o + i * 1 = o + i by omega]
  simp [ic, List.getD_eq_getElem?_getD, h]
theorem ic_setO (k : IntKind) (l : List Int) (o i : Nat) (y : Int) : (ic k l).setIfInBounds (o + i * 1) (.int k y) = ic k (l.set (o + i) y) := by
  have := ic_set k l (o + i) y
  rwa [show 0 + (o + i) * 1 = o + i * 1 by omega] at this
/-- the row of the block b has turned, nothing else -/
def Turned (b : Nat) (T : TypeId) (L : List Int) (w w' : World) : Prop := ∃ L', L'.length = L.length ∧ UL L' ∧ Hb w' b (.cells (ic .u64 L') T (0, 0)) ∧ KeepO (fun x => x = b) w w'
theorem Turned.refl {b : Nat} {T : TypeId} {L : List Int} {w : World} (h : UL L) (hb : Hb w b (.cells (ic .u64 L) T (0, 0))) : Turned b T L w w := ⟨L, rfl, h, hb, KeepO.refl _ _⟩

set_option maxRecDepth 10000 in
theorem shiftUp_spec (b o n cp : Nat) (T : TypeId) (L : List Int) (s : Int) (w : World) (hb : Hb w b (.cells (ic .u64 L) T (0, 0))) (hL : UL L) (hon : o + n ≤ L.length) (hn : n ≤ 1000) (hs : 0 ≤ s ∧ s ≤ 255) : Ret Hvad.prog 276 #[.slice (some ⟨b, o, none⟩) n cp, .int .u8 s] w fun u w' => u = .tuple #[] ∧ Turned b T L w w' := by
  refine Ret_of_W Hvad.func276 rfl rfl ?_
  refine W_seq ?_
  refine W_seq ?_
  refine W_region rfl ?_
  refine WO_p (PS_move_int rfl) ?_
  refine WO_p (PS_geq rfl rfl) ?_
  refine WO_nil ?_
  refine thn_normal ?_
  refine W_if rfl (fun hb2 => ?_) (fun hb2 => ?_)
  · have hb2p := hb2.h; try simp only [al_ete, al_dfn, Bool.not_eq_true', Bool.not_eq_false', al_ne, Bool.not_not, al_nn] at hb2p
    refine W_ret ?_
    refine thn_ret ?_
    first | refine bodyQ_ret0 Hvad.results276 ?_ | refine bodyQ_end0 Hvad.results276 ?_
    first
    | exact ⟨rfl, Turned.refl hL hb⟩
    | exact ⟨rfl, L2, hl2, hL2, hb2, hk2⟩
  · have hb2p := hb2.h; try simp only [al_ete, al_dfn, Bool.not_eq_true', Bool.not_eq_false', al_ne, Bool.not_not, al_nn] at hb2p
    refine W_skip ?_
    refine thn_normal ?_
    refine W_seq ?_
    refine W_region rfl ?_
    refine WO_p (PS_assign_int rfl) ?_
    refine WO_nil ?_
    refine thn_normal ?_
    refine W_seq ?_
    refine W_region rfl ?_
    refine WO_p (PS_move_slice rfl) ?_
    refine WO_p (PS_lenS Hvad.runUnderlying194 rfl) ?_
    refine WO_p (PS_move_int rfl) ?_
    refine WO_nil ?_
    refine thn_normal ?_
    refine W_block ?_
    refine W_loopN (fun m ρ w' => ∃ (i : Nat) (c : Int) (L2 : List Int), i + m = n ∧ (0 ≤ c ∧ c ≤ 18446744073709551615) ∧ L2.length = L.length ∧ UL L2 ∧ Fr [(0, .slice (some ⟨b, o, none⟩) n cp), (1, .int .u8 s), (4, .int .u64 c), (9, .slice (some ⟨b, o, none⟩) n cp), (10, .int .i64 n), (11, .int .i64 i)] ρ ∧ Hb w' b (.cells (ic .u64 L2) T (0, 0)) ∧ KeepO (fun x => x = b) w w') n ?_ ?_
    · exact ⟨0, 0, L, by omega, by omega, rfl, hL, ⟨rfl, rfl, rfl, rfl, rfl, rfl, trivial⟩, hb, KeepO.refl _ _⟩
    intro m ρ w2 hI
    obtain ⟨i, c, L2, him, hc, hl2, hL2, hF, hb2, hk2⟩ := hI
    refine W_env _ hF ?_
    refine W_seq ?_
    refine W_region rfl ?_
    refine WO_p (PS_lss rfl rfl) ?_
    refine WO_nil ?_
    refine thn_normal ?_
    refine W_seq ?_
    refine W_if rfl (fun hb4 => ?_) (fun hb4 => ?_)
    · have hb4p := hb4.h; try simp only [al_ete, al_dfn, Bool.not_eq_true', Bool.not_eq_false', al_ne, Bool.not_not, al_nn] at hb4p
      have hce : Ce (ic .u64 L2) (o + ((i:Int)).toNat * 1) (.int .u64 (L2.getD (o + i) 0)) := by rw [show ((i:Int)).toNat = i from Int.toNat_natCast i]; exact ce_icO (by omega)
      have hx2 := hL2.get (o + i)
      refine W_skip ?_
      refine thn_normal ?_
      refine W_seq ?_
      refine W_block ?_
      refine W_seq ?_
      refine W_region rfl ?_
      refine WO_p (PS_move_int rfl) ?_
      refine WO_p (PS_indexS Hvad.runUnderlying194 Hvad.sizeOf26 rfl rfl (by omega) (by omega)) ?_
      refine WO_load (.int _ _) Hvad.isAgg26 rfl (Hb.h (by repeat (first | assumption | exact Hb.newY _ _ | refine Hb.alloc ?_ | refine Hb.drew ?_ | refine Hb.ext (by assumption) ?_ | exact Hb.setSameL (by first | omega | (simp only [size_alloc, size_setB, size_drew]; omega)) | exact Hb.setSame (by assumption) | refine Hb.set (by first | omega | (simp only [size_alloc, size_setB, size_drew]; omega)) ?_ ))) (Ce.h (by first | assumption | exact ⟨rfl⟩)) ?_
      refine WO_p (PS_assign_int rfl) ?_
      refine WO_p (PS_assign_int rfl) ?_
      refine WO_nil ?_
      refine thn_normal ?_
      refine W_seq ?_
      refine W_region rfl ?_
      refine WO_p (PS_move_slice rfl) ?_
      refine WO_p (PS_move_int rfl) ?_
      refine WO_p (PS_move_int rfl) ?_
      refine WO_p (PS_move_int rfl) ?_
      refine WO_p (PS_shl_u64 _ rfl rfl (by omega) rfl) ?_
      refine WO_p (PS_move_int rfl) ?_
      refine WO_p (PS_or_u64 rfl rfl) ?_
      refine WO_p (PS_indexS Hvad.runUnderlying194 Hvad.sizeOf26 rfl rfl (by omega) (by omega)) ?_
      refine WO_store1 Hvad.sizeOf26 rfl (v := .int _ _) rfl hb2.h rfl (by rw [size_ic]; omega) rfl ?_
      rw [show ((i:Int)).toNat = i from Int.toNat_natCast i, ic_setO]
      refine WO_nil ?_
      refine thn_normal ?_
      refine W_region rfl ?_
      refine WO_p (PS_move_int rfl) ?_
      refine WO_p (PS_move_int rfl) ?_
      refine WO_p (PS_sub_u8n rfl rfl (by omega) (by omega)) ?_
      refine WO_p (PS_shr_u64 _ rfl rfl (by omega) rfl) ?_
      refine WO_p (PS_assign_int rfl) ?_
      refine WO_nil ?_
      refine inBlk_normal ?_
      refine thn_normal ?_
      refine W_region rfl ?_
      refine WO_p (PS_add_i64n rfl rfl (by omega) (by omega)) ?_
      refine WO_p (PS_move_int rfl) ?_
      refine WO_nil ?_
      refine thn_normal ?_
      exact ⟨m - 1, by omega, i + 1, _, L2.set (o + i) _, by omega, shr_bd _ hx2, by rw [List.length_set]; exact hl2, hL2.set _ (bOr_bd _ _), ⟨rfl, rfl, rfl, rfl, rfl, congrArg (Value.int .i64) (by omega), trivial⟩, Hb.setSame hb2, hk2.setB (fun _ => rfl) _⟩
    · have hb4p := hb4.h; try simp only [al_ete, al_dfn, Bool.not_eq_true', Bool.not_eq_false', al_ne, Bool.not_not, al_nn] at hb4p
      refine W_exit ?_
      refine thn_exit ?_
      refine thn_exit ?_
      refine inBlk_exit ?_
      first | refine bodyQ_ret0 Hvad.results276 ?_ | refine bodyQ_end0 Hvad.results276 ?_
      first
      | exact ⟨rfl, Turned.refl hL hb⟩
      | exact ⟨rfl, L2, hl2, hL2, hb2, hk2⟩

set_option maxRecDepth 10000 in
theorem shiftDown_spec (b o n cp : Nat) (T : TypeId) (L : List Int) (s : Int) (w : World) (hb : Hb w b (.cells (ic .u64 L) T (0, 0))) (hL : UL L) (hon : o + n ≤ L.length) (hn : n ≤ 1000) (hs : 0 ≤ s ∧ s ≤ 255) : Ret Hvad.prog 278 #[.slice (some ⟨b, o, none⟩) n cp, .int .u8 s] w fun u w' => u = .tuple #[] ∧ Turned b T L w w' := by
  refine Ret_of_W Hvad.func278 rfl rfl ?_
  refine W_seq ?_
  refine W_seq ?_
  refine W_region rfl ?_
  refine WO_p (PS_move_int rfl) ?_
  refine WO_p (PS_geq rfl rfl) ?_
  refine WO_nil ?_
  refine thn_normal ?_
  refine W_if rfl (fun hb2 => ?_) (fun hb2 => ?_)
  · have hb2p := hb2.h; try simp only [al_ete, al_dfn, Bool.not_eq_true', Bool.not_eq_false', al_ne, Bool.not_not, al_nn] at hb2p
    refine W_ret ?_
    refine thn_ret ?_
    first | refine bodyQ_ret0 Hvad.results278 ?_ | refine bodyQ_end0 Hvad.results278 ?_
    first
    | exact ⟨rfl, Turned.refl hL hb⟩
    | exact ⟨rfl, L2, hl2, hL2, hb2, hk2⟩
  · have hb2p := hb2.h; try simp only [al_ete, al_dfn, Bool.not_eq_true', Bool.not_eq_false', al_ne, Bool.not_not, al_nn] at hb2p
    refine W_skip ?_
    refine thn_normal ?_
    refine W_seq ?_
    refine W_region rfl ?_
    refine WO_p (PS_assign_int rfl) ?_
    refine WO_nil ?_
    refine thn_normal ?_
    refine W_seq ?_
    refine W_region rfl ?_
    refine WO_p (PS_move_slice rfl) ?_
    refine WO_p (PS_lenS Hvad.runUnderlying194 rfl) ?_
    refine WO_p (PS_assign_int rfl) ?_
    refine WO_nil ?_
    refine thn_normal ?_
    refine W_block ?_
    refine W_loopN (fun m ρ w' => ∃ (c : Int) (L2 : List Int), m ≤ n ∧ (0 ≤ c ∧ c ≤ 18446744073709551615) ∧ L2.length = L.length ∧ UL L2 ∧ Fr [(0, .slice (some ⟨b, o, none⟩) n cp), (1, .int .u8 s), (4, .int .u64 c), (5, .int .i64 m)] ρ ∧ Hb w' b (.cells (ic .u64 L2) T (0, 0)) ∧ KeepO (fun x => x = b) w w') n ?_ ?_
    · exact ⟨0, L, by omega, by omega, rfl, hL, ⟨rfl, rfl, rfl, rfl, trivial⟩, hb, KeepO.refl _ _⟩
    intro m ρ w2 hI
    obtain ⟨c, L2, him, hc, hl2, hL2, hF, hb2, hk2⟩ := hI
    refine W_env _ hF ?_
    refine W_seq ?_
    refine W_seq ?_
    refine W_region rfl ?_
    refine WO_p (PS_move_int rfl) ?_
    refine WO_p (PS_gtr rfl rfl) ?_
    refine WO_nil ?_
    refine thn_normal ?_
    refine W_if rfl (fun hb4 => ?_) (fun hb4 => ?_)
    · have hb4p := hb4.h; try simp only [al_ete, al_dfn, Bool.not_eq_true', Bool.not_eq_false', al_ne, Bool.not_not, al_nn] at hb4p
      have hce : Ce (ic .u64 L2) (o + ((m:Int) - 1).toNat * 1) (.int .u64 (L2.getD (o + (m - 1)) 0)) := by rw [show ((m:Int) - 1).toNat = m - 1 by omega]; exact ce_icO (by omega)
      have hx2 := hL2.get (o + (m - 1))
      refine W_skip ?_
      refine thn_normal ?_
      refine W_seq ?_
      refine W_block ?_
      refine W_seq ?_
      refine W_region rfl ?_
      refine WO_p (PS_move_slice rfl) ?_
      refine WO_p (PS_move_int rfl) ?_
      refine WO_p (PS_sub_i64n rfl rfl (by omega) (by omega)) ?_
      refine WO_p (PS_indexS Hvad.runUnderlying194 Hvad.sizeOf26 rfl rfl (by omega) (by omega)) ?_
      refine WO_load (.int _ _) Hvad.isAgg26 rfl (Hb.h (by repeat (first | assumption | exact Hb.newY _ _ | refine Hb.alloc ?_ | refine Hb.drew ?_ | refine Hb.ext (by assumption) ?_ | exact Hb.setSameL (by first | omega | (simp only [size_alloc, size_setB, size_drew]; omega)) | exact Hb.setSame (by assumption) | refine Hb.set (by first | omega | (simp only [size_alloc, size_setB, size_drew]; omega)) ?_ ))) (Ce.h (by first | assumption | exact ⟨rfl⟩)) ?_
      refine WO_p (PS_assign_int rfl) ?_
      refine WO_nil ?_
      refine thn_normal ?_
      refine W_seq ?_
      refine W_region rfl ?_
      refine WO_p (PS_move_slice rfl) ?_
      refine WO_p (PS_move_int rfl) ?_
      refine WO_p (PS_sub_i64n rfl rfl (by omega) (by omega)) ?_
      refine WO_p (PS_move_int rfl) ?_
      refine WO_p (PS_move_int rfl) ?_
      refine WO_p (PS_shr_u64 _ rfl rfl (by omega) rfl) ?_
      refine WO_p (PS_move_int rfl) ?_
      refine WO_p (PS_or_u64 rfl rfl) ?_
      refine WO_p (PS_indexS Hvad.runUnderlying194 Hvad.sizeOf26 rfl rfl (by omega) (by omega)) ?_
      refine WO_store1 Hvad.sizeOf26 rfl (v := .int _ _) rfl hb2.h rfl (by rw [size_ic]; omega) rfl ?_
      rw [show ((m:Int) - 1).toNat = m - 1 by omega, ic_setO]
      refine WO_nil ?_
      refine thn_normal ?_
      refine W_region rfl ?_
      refine WO_p (PS_move_int rfl) ?_
      refine WO_p (PS_move_int rfl) ?_
      refine WO_p (PS_sub_u8n rfl rfl (by omega) (by omega)) ?_
      refine WO_p (PS_shl_u64 _ rfl rfl (by omega) rfl) ?_
      refine WO_p (PS_assign_int rfl) ?_
      refine WO_nil ?_
      refine inBlk_normal ?_
      refine thn_normal ?_
      refine W_region rfl ?_
      refine WO_p (PS_move_int rfl) ?_
      refine WO_p (PS_sub_i64n rfl rfl (by omega) (by omega)) ?_
      refine WO_p (PS_assign_int rfl) ?_
      refine WO_nil ?_
      refine thn_normal ?_
      exact ⟨m - 1, by omega, _, L2.set (o + (m - 1)) _, by omega, shl_bd _ _, by rw [List.length_set]; exact hl2, hL2.set _ (bOr_bd _ _), ⟨rfl, rfl, rfl, congrArg (Value.int .i64) (by omega), trivial⟩, Hb.setSame hb2, hk2.setB (fun _ => rfl) _⟩
    · have hb4p := hb4.h; try simp only [al_ete, al_dfn, Bool.not_eq_true', Bool.not_eq_false', al_ne, Bool.not_not, al_nn] at hb4p
      refine W_exit ?_
      refine thn_exit ?_
      refine thn_exit ?_
      refine inBlk_exit ?_
      first | refine bodyQ_ret0 Hvad.results278 ?_ | refine bodyQ_end0 Hvad.results278 ?_
      first
      | exact ⟨rfl, Turned.refl hL hb⟩
      | exact ⟨rfl, L2, hl2, hL2, hb2, hk2⟩

set_option maxRecDepth 10000 in
theorem short_spec (b n : Nat) (T : TypeId) (L : List Int) (y : Int) (w : World) (hb : Hb w b (.cells (ic .u64 L) T (0, 0))) (hL : UL L) (hl : L.length = 8) (hn : n ≤ 8) (hy : 0 ≤ y ∧ y ≤ 18446744073709551615) : Ret Hvad.prog 292 #[.pointer (some ⟨b, 0, none⟩), .int .u8 n, .int .u64 y] w fun u w' => Turned b T L w w' ∧ ∃ r : Int, u = .int .u64 r ∧ 0 ≤ r ∧ r ≤ 18446744073709551615 := by
  refine Ret_of_W Hvad.func292 rfl rfl ?_
  refine W_seq ?_
  refine W_region rfl ?_
  refine WO_p (PS_assign_int rfl) ?_
  refine WO_nil ?_
  refine thn_normal ?_
  refine W_seq ?_
  refine W_region rfl ?_
  refine WO_p (PS_assign_int rfl) ?_
  refine WO_nil ?_
  refine thn_normal ?_
  refine W_seq ?_
  refine W_seq ?_
  refine W_region rfl ?_
  refine WO_p (PS_move_int rfl) ?_
  refine WO_p (PS_assign_int rfl) ?_
  refine WO_nil ?_
  refine thn_normal ?_
  refine W_block ?_
  refine W_loopN (fun m ρ w' => ∃ (r : Int) (L2 : List Int), m ≤ n ∧ (0 ≤ r ∧ r ≤ 18446744073709551615) ∧ L2.length = 8 ∧ UL L2 ∧ Fr [(0, .pointer (some ⟨b, 0, none⟩)), (2, .int .u64 y), (7, .int .u64 r), (8, .int .u8 m)] ρ ∧ Hb w' b (.cells (ic .u64 L2) T (0, 0)) ∧ KeepO (fun x => x = b) w w') n ?_ ?_
  · exact ⟨0, L, by omega, by omega, hl, hL, ⟨rfl, rfl, rfl, rfl, trivial⟩, hb, KeepO.refl _ _⟩
  intro m ρ w2 hI
  obtain ⟨r, L2, him, hr, hl2, hL2, hF, hB2, hk2⟩ := hI
  refine W_env _ hF ?_
  refine W_seq ?_
  refine W_seq ?_
  refine W_region rfl ?_
  refine WO_p (PS_move_int rfl) ?_
  refine WO_p (PS_gtr rfl rfl) ?_
  refine WO_nil ?_
  refine thn_normal ?_
  refine W_if rfl (fun hb2 => ?_) (fun hb2 => ?_)
  · have hb2p := hb2.h; try simp only [al_ete, al_dfn, Bool.not_eq_true', Bool.not_eq_false', al_ne, Bool.not_not, al_nn] at hb2p
    have hce : Ce (ic .u64 L2) (0 + ((m:Int) - 1).toNat * 1) (.int .u64 (L2.getD (m - 1) 0)) := by rw [show ((m:Int) - 1).toNat = m - 1 by omega]; exact ce_ic (by omega)
    have hx2 := hL2.get (m - 1)
    refine W_skip ?_
    refine thn_normal ?_
    refine W_seq ?_
    refine W_block ?_
    refine W_seq ?_
    refine W_region rfl ?_
    refine WO_p (PS_move_int rfl) ?_
    refine WO_p (PS_move_ptr rfl) ?_
    refine WO_p (PS_move_int rfl) ?_
    refine WO_p (PS_sub_u8n rfl rfl (by omega) (by omega)) ?_
    refine WO_p (PS_nilCheck rfl) ?_
    refine WO_p (PS_indexA Hvad.runUnderlying62 Hvad.sizeOf26 rfl rfl (by omega) (by omega)) ?_
    refine WO_load (.int _ _) Hvad.isAgg26 rfl (Hb.h (by repeat (first | assumption | exact Hb.newY _ _ | refine Hb.alloc ?_ | refine Hb.drew ?_ | refine Hb.ext (by assumption) ?_ | exact Hb.setSameL (by first | omega | (simp only [size_alloc, size_setB, size_drew]; omega)) | exact Hb.setSame (by assumption) | refine Hb.set (by first | omega | (simp only [size_alloc, size_setB, size_drew]; omega)) ?_ ))) (Ce.h (by first | assumption | exact ⟨rfl⟩)) ?_
    refine WO_p (PS_move_int rfl) ?_
    refine WO_call Hvad.call249 (by rfl) (Ret.mono (div64_spec _ _ _ _ (by omega) (by omega) hy) ?_)
    rintro _ w3 ⟨hE3, q, r3, ok, rfl, hq, hr3⟩
    have hB3 := Hb.ext hE3 hB2
    have hk3 := hk2.extR hE3
    refine WO_p (PS_move_tuple rfl) ?_
    refine WO_p (PS_extract_int rfl rfl) ?_
    refine WO_p (PS_extract_int rfl rfl) ?_
    refine WO_p (PS_extract_bool rfl rfl) ?_
    refine WO_p (PS_assign_int rfl) ?_
    refine WO_p (PS_assign_int rfl) ?_
    refine WO_p (PS_assign_bool rfl) ?_
    refine WO_nil ?_
    refine thn_normal ?_
    refine W_seq ?_
    refine W_region rfl ?_
    refine WO_p (PS_move_ptr rfl) ?_
    refine WO_p (PS_move_int rfl) ?_
    refine WO_p (PS_sub_u8n rfl rfl (by omega) (by omega)) ?_
    refine WO_p (PS_move_int rfl) ?_
    refine WO_p (PS_nilCheck rfl) ?_
    refine WO_p (PS_indexA Hvad.runUnderlying62 Hvad.sizeOf26 rfl rfl (by omega) (by omega)) ?_
    refine WO_store1 Hvad.sizeOf26 rfl (v := .int _ _) rfl hB3.h rfl (by rw [size_ic]; omega) rfl ?_
    rw [show ((m:Int) - 1).toNat = m - 1 by omega, ic_set]
    refine WO_nil ?_
    refine thn_normal ?_
    refine W_region rfl ?_
    refine WO_p (PS_move_int rfl) ?_
    refine WO_p (PS_assign_int rfl) ?_
    refine WO_nil ?_
    refine inBlk_normal ?_
    refine thn_normal ?_
    refine W_region rfl ?_
    refine WO_p (PS_move_int rfl) ?_
    refine WO_p (PS_sub_u8n rfl rfl (by omega) (by omega)) ?_
    refine WO_p (PS_assign_int rfl) ?_
    refine WO_nil ?_
    refine thn_normal ?_
    exact ⟨m - 1, by omega, _, L2.set (m - 1) _, by omega, hr3, by rw [List.length_set]; exact hl2, hL2.set _ hq, ⟨rfl, rfl, rfl, congrArg (Value.int .u8) (by omega), trivial⟩, Hb.setSame hB3, hk3.setB (fun _ => rfl) _⟩
  · have hb2p := hb2.h; try simp only [al_ete, al_dfn, Bool.not_eq_true', Bool.not_eq_false', al_ne, Bool.not_not, al_nn] at hb2p
    refine W_exit ?_
    refine thn_exit ?_
    refine thn_exit ?_
    refine inBlk_exit ?_
    refine thn_normal ?_
    refine W_seq ?_
    refine W_region rfl ?_
    refine WO_p (PS_move_int rfl) ?_
    refine WO_p (PS_assign_int rfl) ?_
    refine WO_nil ?_
    refine thn_normal ?_
    refine W_ret ?_
    refine bodyQ_ret1 Hvad.results292 rfl (.int _ _) rfl ?_
    exact ⟨⟨L2, hl2.trans hl.symm, hL2, hB2, hk2⟩, r, rfl, hr⟩

end Go.Proofs.YgvadwGreat
