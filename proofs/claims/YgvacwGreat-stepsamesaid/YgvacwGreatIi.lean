import Derived.Test.YgvacwGreatIh
namespace Go.Proofs.YgvacwGreat
set_option linter.unusedSimpArgs false
set_option linter.unusedVariables false
/-! words that lie one behind the other -/
def chunk (L : List Int) (n : Nat) : List (List Int) := (List.range n).map fun i => (L.drop (32 * i)).take 32
theorem chunk_len (L : List Int) (n : Nat) : (chunk L n).length = n := by simp [chunk]
theorem chunk_get {L : List Int} {n i : Nat} (h : i < n) : (chunk L n)[i]? = some ((L.drop (32 * i)).take 32) := by simp [chunk, h]
theorem chunk_by {L : List Int} {n : Nat} (hl : L.length = n * 32) (hb : ∀ x ∈ L, 0 ≤ x ∧ x ≤ 255) : ∀ x ∈ chunk L n, By x 32 := by
  intro x hx
  simp only [chunk, List.mem_map, List.mem_range] at hx
  obtain ⟨i, hi, rfl⟩ := hx
  refine ⟨?_, fun z hz => hb z (List.mem_of_mem_drop (List.mem_of_mem_take hz))⟩
  rw [List.length_take, List.length_drop]; omega
theorem rowl_flat {L : List Int} {n : Nat} (hl : L.length = n * 32) : RowL encW32 32 0 (ic .u8 L) (chunk L n) := by
  refine ⟨by rw [chunk_len, size_ic]; omega, fun i x hx k hk => ?_⟩
  have hi : i < n := by have := lt_of_getElem? hx; rwa [chunk_len] at this
  rw [chunk_get hi] at hx
  obtain rfl := Option.some.inj hx
  unfold ic encW32
  rw [List.getElem?_toArray, List.getElem?_map, List.getElem?_map, List.getElem?_take, if_pos hk, List.getElem?_drop]
  congr 2
  omega

set_option maxRecDepth 10000 in
set_option maxHeartbeats 4000000 in
theorem yWordsOfI_spec [Om] (w : World) (hO : OmB w) (b o n cp : Nat) (r : Array Value) (T : TypeId) (fz : Nat × Nat) (L : List Int) (hb : Hb w b (.cells r T fz)) (hX : Xt r o (o + n * 32) (ic .u8 L)) (hrs : o + n * 32 ≤ r.size) (hL : L.length = n * 32) (h0 : 0 < n) (hm : n ≤ 100000000) : Ret Hvac.prog 56 #[.slice (some ⟨b, o, none⟩) n cp] w fun u w' => Ext w w' ∧ ∃ s' : SV, u = .slice s'.1 s'.2.1 s'.2.2 ∧ PL encW32 32 28 w' s' (chunk L n) := by
  refine Ret_of_W Hvac.func56 rfl rfl ?_
  refine W_seq ?_
  refine W_region rfl ?_
  refine WO_p (PS_assign_slice rfl) ?_
  refine WO_nil ?_
  refine thn_normal ?_
  refine W_seq ?_
  refine W_seq ?_
  refine W_region rfl ?_
  refine WO_p (PS_move_slice rfl) ?_
  refine WO_p (PS_eqlslnil Hvac.underlying29 rfl) ?_
  refine WO_nil ?_
  refine thn_normal ?_
  refine W_if rfl (fun hb2 => ?_) (fun hb2 => ?_)
  · have hb2p := hb2.h; try simp only [al_ete, al_dfn, Bool.not_eq_true', Bool.not_eq_false', al_ne, Bool.not_not, al_nn] at hb2p
    simp at hb2p --END
  · have hb2p := hb2.h; try simp only [al_ete, al_dfn, Bool.not_eq_true', Bool.not_eq_false', al_ne, Bool.not_not, al_nn] at hb2p
    refine W_skip ?_
    refine thn_normal ?_
    refine W_seq ?_
    refine W_region rfl ?_
    refine WO_p (PS_move_slice rfl) ?_
    refine WO_p (PS_lenS Hvac.runUnderlying29 rfl) ?_
    refine WO_make (z := .agg (ic .u8 (List.replicate 32 0))) Hvac.underlying29 info28 rfl rfl rfl (by omega) (by omega) (by show ((32 : Nat) : Int) * _ ≤ _; omega) (by omega) ?_
    rw [show ((n : Int)).toNat = n from Int.toNat_natCast _]
    refine WO_p (PS_assign_slice rfl) ?_
    refine WO_nil ?_
    refine thn_normal ?_
    refine W_seq ?_
    refine W_region rfl ?_
    refine WO_p (PS_move_slice rfl) ?_
    refine WO_p (PS_move_slice rfl) ?_
    refine WO_copy n (vs := ic .u8 L) Hvac.runUnderlying29 Hvac.sizeOf28 rfl rfl (Hb.h (Hb.newY _ _)) (Hb.h (Hb.alloc hb)) (Nat.min_self _) (by rw [size_madeCells]; show 0 + n * 32 ≤ n * 32; omega) hrs hX.h (by intro u hu; exact oneCell_ic u hu) ?_
    refine WO_nil ?_
    refine thn_normal ?_
    refine W_seq ?_
    refine W_region rfl ?_
    refine WO_p (PS_move_slice rfl) ?_
    refine WO_p (PS_assign_slice rfl) ?_
    refine WO_nil ?_
    refine thn_normal ?_
    refine W_ret ?_
    refine bodyQ_ret1 Hvac.results56 rfl (.slice _ _ _) rfl ?_
    refine ⟨(by repeat (first | assumption | exact Ext.refl _ | refine Ext.alloc ?_ _ | refine Ext.drew ?_ | refine Ext.setB ?_ (by first | omega | (simp only [size_alloc, size_setB, size_drew]; omega)) _ | refine Ext.trans ?_ (by assumption))), (some ⟨_, 0, none⟩, n, n), rfl, ⟨chunk_len _ _, Nat.le_refl _, fun _ => ⟨_, _, (0, 0), rfl, hO.fresh (Nat.le_refl _), Hb.setSame (Hb.newY _ _), ?_⟩⟩⟩
    rw [splice_whole rfl (by rw [size_madeCells]; simp [ic, hL]; rfl)]
    simpa [ic] using rowl_flat hL

theorem yWordsOfF_spec [Om] (w : World) (hO : OmB w) (s : SV) (L : List Int) (h : InFlat 32 w s L) (hm : s.2.1 ≤ 100000000) : Ret Hvac.prog 56 #[.slice s.1 s.2.1 s.2.2] w fun u w' => Ext w w' ∧ ∃ s' : SV, u = .slice s'.1 s'.2.1 s'.2.2 ∧ PL encW32 32 28 w' s' (chunk L s.2.1) := by
  obtain ⟨p, n, cp⟩ := s
  dsimp only at hm ⊢
  rcases Nat.eq_zero_or_pos n with h0 | h0
  · subst h0
    exact yWordsOfZ_spec w hO p cp
  · obtain ⟨b, o, r, T, fz, h1, h2, h3, h4⟩ := h.row h0
    dsimp only at h1 h3 h4
    subst h1
    exact yWordsOfI_spec w hO b o n cp r T fz L h2 h4 h3 h.len h0 hm
end Go.Proofs.YgvacwGreat
