import Derived.Test.YgvadwGreatVe
namespace Go.Proofs.YgvadwGreat
set_option linter.unusedSimpArgs false
set_option linter.unusedVariables false
theorem info5 : Hvad.prog.info? 5 = some Hvad.t5 := by kernel_rfl
theorem info28 : Hvad.prog.info? 28 = some Hvad.t28 := by kernel_rfl
def V.setT (v : V) (A K : List Int) (e : Int → Temp → Entry) (g : Temp → Temp) : Bool × V :=
  if 65536 ≤ v.journal.length then (false, v)
  else if (v.tempOf A K).1.2 = true then
    (match (v.tempOf A K).2.temps[(v.tempOf A K).1.1.toNat]? with
     | some x => (true, { (v.tempOf A K).2 with journal := (v.tempOf A K).2.journal ++ [e (v.tempOf A K).1.1 x], temps := (v.tempOf A K).2.temps.set (v.tempOf A K).1.1.toNat (g x) })
     | none => (false, (v.tempOf A K).2))
  else (false, (v.tempOf A K).2)
def V.tstore (v : V) (A K n : List Int) : Bool × V := v.setT A K (fun a x => ⟨8, a, 0, x.val, (none, 0, 0), false⟩) (fun x => { x with val := n })
theorem withTT_journal (v : V) : v.withTT.journal = v.journal := by unfold V.withTT; split <;> rfl
theorem tempOf_journal (v : V) (A K : List Int) : (v.tempOf A K).2.journal = v.journal := by
  unfold V.tempOf; split; rfl; split; rfl; split
  · unfold V.tempNew; split
    · rw [withTT_journal, acct_journal]
    · show (v.acct A).2.withTT.journal = _; rw [withTT_journal, acct_journal]
  · rw [acct_journal]
theorem tempOf_ok {v : V} {A K : List Int} (h : (v.tempOf A K).1.2 = true) : 0 ≤ (v.tempOf A K).1.1 ∧ ∃ x, (v.tempOf A K).2.temps[(v.tempOf A K).1.1.toNat]? = some x ∧ x.key = K := by
  unfold V.tempOf at h ⊢
  split
  · rename_i h0
    refine ⟨h0, ?_⟩
    unfold V.peekT at h0 ⊢
    split at h0
    · rename_i h1; rw [if_pos h1]; obtain ⟨x, hx, _, hk⟩ := findT_some h0; exact ⟨x, hx, hk⟩
    · omega
  · rename_i h0
    rw [if_neg h0] at h
    split
    · rename_i h1; rw [if_pos h1] at h; cases h
    · rename_i h1
      rw [if_neg h1] at h
      split
      · rename_i h2
        rw [if_pos h2] at h
        unfold V.tempNew at h ⊢
        split
        · rename_i h3; rw [if_pos h3] at h; cases h
        · refine ⟨by simp, newT (v.acct A).1.1 K, ?_, rfl⟩
          simp
      · rename_i h2; rw [if_neg h2] at h; cases h
/-- A slice whose elements take u cells each, with the plain content L. -/
def SC (w : World) (k : IntKind) (u : Nat) (s : SV) (L : List Int) : Prop :=
  L.length = s.2.1 * u ∧ ((s.1 = none ∧ s.2.1 = 0) ∨ ∃ b o r T fz, s.1 = some ⟨b, o, none⟩ ∧ Hb w b (.cells r T fz) ∧ o + s.2.1 * u ≤ r.size ∧ Xt r o (o + s.2.1 * u) (ic k L))
theorem SC.keep {w w' : World} {k : IntKind} {u : Nat} {s : SV} {L : List Int} (h : SC w k u s L) (hw : ∀ b r T fz, Hb w b (.cells r T fz) → Hb w' b (.cells r T fz)) : SC w' k u s L := by
  obtain ⟨h1, h2⟩ := h
  refine ⟨h1, ?_⟩
  rcases h2 with h2 | ⟨b, o, r, T, fz, h3, h4, h5⟩
  · exact Or.inl h2
  · exact Or.inr ⟨b, o, r, T, fz, h3, hw _ _ _ _ h4, h5⟩
theorem SC.ext {w w' : World} {k : IntKind} {u : Nat} {s : SV} {L : List Int} (h : SC w k u s L) (he : Ext w w') : SC w' k u s L := h.keep fun _ _ _ _ hb => hb.ext he
/-- a fresh row of bytes (or none, where it is empty) -/
def NewB (w w' : World) (s : SV) (L : List Int) : Prop := (L = [] ∧ s = (none, 0, 0)) ∨ (L ≠ [] ∧ ∃ b, s = (some ⟨b, 0, none⟩, L.length, L.length) ∧ w.heap.size ≤ b ∧ Hb w' b (.cells (ic .u8 L) 5 (0, 0)))
theorem NewB.len {w w' : World} {s : SV} {L : List Int} (h : NewB w w' s L) : s.2.1 = L.length := by
  rcases h with ⟨rfl, rfl⟩ | ⟨_, b, rfl, _⟩ <;> rfl
theorem NewB.mono {w0 w w' : World} {s : SV} {L : List Int} (h : NewB w w' s L) (h0 : w0.heap.size ≤ w.heap.size) : NewB w0 w' s L := by
  rcases h with h | ⟨h1, b, h2, h3, h4⟩
  · exact Or.inl h
  · exact Or.inr ⟨h1, b, h2, Nat.le_trans h0 h3, h4⟩
theorem NewB.bs {w w' : World} {s : SV} {L : List Int} {β : Option Nat} (h : NewB w w' s L) (hβ : ∀ b, β = some b → b < w.heap.size) (hL : ∀ x ∈ L, 0 ≤ x ∧ x ≤ 255) : BS w' β s := by
  rcases h with ⟨rfl, rfl⟩ | ⟨h1, b, rfl, h3, h4⟩
  · exact Or.inl ⟨rfl, rfl⟩
  · refine Or.inr ⟨b, ic .u8 L, (0, 0), rfl, ?_, h4, by rw [size_ic]; exact Nat.le_refl _, ?_⟩
    · intro e; have := hβ b e; omega
    · intro i hi
      have hi' : i < L.length := hi
      exact ⟨L[i], hL _ (List.getElem_mem hi'), by simp [ic, hi']⟩
theorem NewB.sc {w w' : World} {s : SV} {L : List Int} (h : NewB w w' s L) : SC w' .u8 1 s L := by
  rcases h with ⟨rfl, rfl⟩ | ⟨h1, b, rfl, h3, h4⟩
  · exact ⟨rfl, Or.inl ⟨rfl, rfl⟩⟩
  · refine ⟨by show L.length = L.length * 1; omega, Or.inr ⟨b, 0, ic .u8 L, 5, (0, 0), rfl, h4, by rw [size_ic]; show 0 + L.length * 1 ≤ _; omega, Xt.whole rfl (by rw [size_ic]; show L.length = L.length * 1; omega)⟩⟩
theorem bytes_list : ∀ (n : Nat) (r : Array Value), (∀ i, i < n → ∃ x : Int, (0 ≤ x ∧ x ≤ 255) ∧ r[i]? = some (.int .u8 x)) → ∃ L : List Int, L.length = n ∧ (∀ x ∈ L, 0 ≤ x ∧ x ≤ 255) ∧ ∀ i, i < n → r[i]? = (L[i]?).map (Value.int .u8) := by
  intro n r
  induction n with
  | zero => intro _; exact ⟨[], rfl, by simp, by omega⟩
  | succ n ih =>
    intro h
    obtain ⟨L, hL, hb, hr⟩ := ih (fun i hi => h i (by omega))
    obtain ⟨x, hx, hx'⟩ := h n (by omega)
    refine ⟨L ++ [x], by simp [hL], ?_, ?_⟩
    · intro y hy
      rcases List.mem_append.1 hy with hy | hy
      · exact hb y hy
      · rw [List.mem_singleton.1 hy]; exact hx
    · intro i hi
      by_cases h1 : i < n
      · rw [hr i h1, List.getElem?_append_left (by omega)]
      · obtain rfl : i = n := by omega
        rw [hx', List.getElem?_append_right (by omega), hL]; simp
theorem BS.sc {w : World} {β : Option Nat} {s : SV} (h : BS w β s) : ∃ L, SC w .u8 1 s L ∧ ∀ x ∈ L, 0 ≤ x ∧ x ≤ 255 := by
  rcases h with ⟨h1, h2⟩ | ⟨b, r, fz, h1, h2, h3, h4, h5⟩
  · exact ⟨[], ⟨by rw [h2]; rfl, Or.inl ⟨h1, h2⟩⟩, by simp⟩
  · obtain ⟨L, hL, hb, hr⟩ := bytes_list _ r h5
    refine ⟨L, ⟨by omega, Or.inr ⟨b, 0, r, 5, fz, h1, h3, by omega, ⟨?_⟩⟩⟩, hb⟩
    refine Array.ext_getElem? fun i => ?_
    rw [Array.getElem?_extract]
    by_cases hi : i < s.2.1
    · rw [if_pos (by omega), Nat.zero_add, hr i hi]; simp [ic]
    · rw [if_neg (by omega)]; symm; apply Array.getElem?_eq_none; rw [size_ic]; omega
theorem isZ {W : List Int} (hW : Wd W) : ∃ a b c d, W = [a, b, c, d] ∧ (0 ≤ a ∧ a ≤ 18446744073709551615) ∧ (0 ≤ b ∧ b ≤ 18446744073709551615) ∧ (0 ≤ c ∧ c ≤ 18446744073709551615) ∧ (0 ≤ d ∧ d ≤ 18446744073709551615) := by
  obtain ⟨a, b, c, d, rfl⟩ := len4 hW.1
  exact ⟨a, b, c, d, rfl, hW.2 a (by simp), hW.2 b (by simp), hW.2 c (by simp), hW.2 d (by simp)⟩
theorem encL_data {A : List Int} (h : A.length = 20) (t d d' : SV) : (encL ⟨A, t, d⟩).toArray.setIfInBounds (0 + 21) (.slice d'.1 d'.2.1 d'.2.2) = (encL ⟨A, t, d'⟩).toArray := by
  obtain ⟨a0, a1, a2, a3, a4, a5, a6, a7, a8, a9, b0, b1, b2, b3, b4, b5, b6, b7, b8, b9, rfl⟩ := len20 h
  rfl
theorem encL_topics {A : List Int} (h : A.length = 20) (t t' d : SV) : (encL ⟨A, t, d⟩).toArray.setIfInBounds (0 + 20) (.slice t'.1 t'.2.1 t'.2.2) = (encL ⟨A, t', d⟩).toArray := by
  obtain ⟨a0, a1, a2, a3, a4, a5, a6, a7, a8, a9, b0, b1, b2, b3, b4, b5, b6, b7, b8, b9, rfl⟩ := len20 h
  rfl

set_option maxRecDepth 10000 in
theorem isZero_spec (W : List Int) (w : World) (hW : Wd W) : Ret Hvad.prog 131 #[.agg (ic .u64 W)] w fun u w' => u = .bool (decide (W = [0, 0, 0, 0])) ∧ Ext w w' := by
  obtain ⟨a, b, c, d, rfl, ha, hb, hc, hd⟩ := isZ hW
  have o1 := bOr_zero ha.1 ha.2 hb.1 hb.2
  have o1b := bOr_bd a b
  have o2 := bOr_zero o1b.1 o1b.2 hc.1 hc.2
  have o2b := bOr_bd (bOr a b) c
  have o3 := bOr_zero o2b.1 o2b.2 hd.1 hd.2
  refine Ret_of_W Hvad.func131 rfl rfl ?_
  refine W_seq ?_
  refine W_region rfl ?_
  refine WO_box (.agg _) rfl ?_
  refine WO_p (PS_assign_bool rfl) ?_
  refine WO_nil ?_
  refine thn_normal ?_
  refine W_seq ?_
  refine W_region rfl ?_
  refine WO_p (PS_indexA Hvad.runUnderlying59 Hvad.sizeOf26 rfl rfl (by omega) (by omega)) ?_
  refine WO_load (.int _ _) Hvad.isAgg26 rfl (Hb.h (by repeat (first | assumption | exact Hb.newY _ _ | refine Hb.alloc ?_ | refine Hb.drew ?_ | refine Hb.ext (by assumption) ?_ | exact Hb.setSameL (by first | omega | (simp only [size_alloc, size_setB, size_drew]; omega)) | exact Hb.setSame (by assumption) | refine Hb.set (by first | omega | (simp only [size_alloc, size_setB, size_drew]; omega)) ?_ ))) (Ce.h (by first | assumption | exact ⟨rfl⟩)) ?_
  refine WO_p (PS_indexA Hvad.runUnderlying59 Hvad.sizeOf26 rfl rfl (by omega) (by omega)) ?_
  refine WO_load (.int _ _) Hvad.isAgg26 rfl (Hb.h (by repeat (first | assumption | exact Hb.newY _ _ | refine Hb.alloc ?_ | refine Hb.drew ?_ | refine Hb.ext (by assumption) ?_ | exact Hb.setSameL (by first | omega | (simp only [size_alloc, size_setB, size_drew]; omega)) | exact Hb.setSame (by assumption) | refine Hb.set (by first | omega | (simp only [size_alloc, size_setB, size_drew]; omega)) ?_ ))) (Ce.h (by first | assumption | exact ⟨rfl⟩)) ?_
  refine WO_p (PS_or_u64 rfl rfl) ?_
  refine WO_p (PS_indexA Hvad.runUnderlying59 Hvad.sizeOf26 rfl rfl (by omega) (by omega)) ?_
  refine WO_load (.int _ _) Hvad.isAgg26 rfl (Hb.h (by repeat (first | assumption | exact Hb.newY _ _ | refine Hb.alloc ?_ | refine Hb.drew ?_ | refine Hb.ext (by assumption) ?_ | exact Hb.setSameL (by first | omega | (simp only [size_alloc, size_setB, size_drew]; omega)) | exact Hb.setSame (by assumption) | refine Hb.set (by first | omega | (simp only [size_alloc, size_setB, size_drew]; omega)) ?_ ))) (Ce.h (by first | assumption | exact ⟨rfl⟩)) ?_
  refine WO_p (PS_or_u64 rfl rfl) ?_
  refine WO_p (PS_indexA Hvad.runUnderlying59 Hvad.sizeOf26 rfl rfl (by omega) (by omega)) ?_
  refine WO_load (.int _ _) Hvad.isAgg26 rfl (Hb.h (by repeat (first | assumption | exact Hb.newY _ _ | refine Hb.alloc ?_ | refine Hb.drew ?_ | refine Hb.ext (by assumption) ?_ | exact Hb.setSameL (by first | omega | (simp only [size_alloc, size_setB, size_drew]; omega)) | exact Hb.setSame (by assumption) | refine Hb.set (by first | omega | (simp only [size_alloc, size_setB, size_drew]; omega)) ?_ ))) (Ce.h (by first | assumption | exact ⟨rfl⟩)) ?_
  refine WO_p (PS_or_u64 rfl rfl) ?_
  refine WO_p (PS_eql rfl rfl) ?_
  refine WO_p (PS_assign_bool rfl) ?_
  refine WO_nil ?_
  refine thn_normal ?_
  refine W_ret ?_
  refine bodyQ_ret1 Hvad.results131 rfl (.bool _) rfl ?_
  refine ⟨congrArg Value.bool (al_dd.2 ?_), (by repeat (first | assumption | exact Ext.refl _ | refine Ext.alloc ?_ _ | refine Ext.drew ?_ | refine Ext.setB ?_ (by first | omega | (simp only [size_alloc, size_setB, size_drew]; omega)) _ | refine Ext.trans ?_ (by assumption)))⟩
  rw [o3, o2, o1]; simp [al_aa]

set_option maxRecDepth 10000 in
theorem copied_spec (s : SV) (L : List Int) (w : World) (hs : SC w .u8 1 s L) (hL : s.2.1 ≤ 1000000) : Ret Hvad.prog 54 #[.slice s.1 s.2.1 s.2.2] w fun u w' => Ext w w' ∧ ∃ s', u = .slice s'.1 s'.2.1 s'.2.2 ∧ NewB w w' s' L := by
  obtain ⟨p, n, cap⟩ := s
  obtain ⟨hsl, hss⟩ := hs
  dsimp only at hsl hss hL ⊢
  refine Ret_of_W Hvad.func54 rfl rfl ?_
  refine W_seq ?_
  refine W_region rfl ?_
  refine WO_p (PS_assign_slice rfl) ?_
  refine WO_nil ?_
  refine thn_normal ?_
  refine W_seq ?_
  refine W_seq ?_
  refine W_region rfl ?_
  refine WO_p (PS_move_slice rfl) ?_
  refine WO_p (PS_lenS Hvad.runUnderlying32 rfl) ?_
  refine WO_p (PS_eql rfl rfl) ?_
  refine WO_nil ?_
  refine thn_normal ?_
  refine W_if rfl (fun hb2 => ?_) (fun hb2 => ?_)
  · have hb2p := hb2.h; simp only [al_ete, al_dfn, Bool.not_eq_true', Bool.not_eq_false', al_ne, Bool.not_not, al_nn] at hb2p
    obtain rfl : n = 0 := by omega
    obtain rfl : L = [] := List.eq_nil_of_length_eq_zero (by omega)
    refine W_seq ?_
    refine W_region rfl ?_
    refine WO_p (PS_assign_slice rfl) ?_
    refine WO_nil ?_
    refine thn_normal ?_
    refine W_ret ?_
    refine thn_ret ?_
    refine bodyQ_ret1 Hvad.results54 rfl (.slice _ _ _) rfl ?_
    first
    | exact ⟨(by repeat (first | assumption | exact Ext.refl _ | refine Ext.alloc ?_ _ | refine Ext.drew ?_ | refine Ext.setB ?_ (by first | omega | (simp only [size_alloc, size_setB, size_drew]; omega)) _ | refine Ext.trans ?_ (by assumption))), (none, 0, 0), rfl, Or.inl ⟨rfl, rfl⟩⟩
    | exact ⟨(by repeat (first | assumption | exact Ext.refl _ | refine Ext.alloc ?_ _ | refine Ext.drew ?_ | refine Ext.setB ?_ (by first | omega | (simp only [size_alloc, size_setB, size_drew]; omega)) _ | refine Ext.trans ?_ (by assumption))), (some ⟨w.heap.size, 0, none⟩, n, n), rfl, Or.inr ⟨by intro e; rw [e] at hLl; simp at hLl; omega, w.heap.size, by rw [hLl], Nat.le_refl _, Hb.setSameL (by first | omega | (simp only [size_alloc, size_setB, size_drew]; omega))⟩⟩
  · have hb2p := hb2.h; simp only [al_ete, al_dfn, Bool.not_eq_true', Bool.not_eq_false', al_ne, Bool.not_not, al_nn] at hb2p
    obtain ⟨b, o, r, T, fz, hp1, hb1, ho, hxt⟩ := hss.resolve_left (fun h => by omega)
    subst hp1
    have hLl : L.length = n := by omega
    have hz : madeCells (Value.int IntKind.u8 0).cells (n * Hvad.t5.size) = ic .u8 (List.replicate n 0) := by rw [show Hvad.t5.size = 1 from rfl, Nat.mul_one]; exact made_ic .u8 n
    refine W_skip ?_
    refine thn_normal ?_
    refine W_seq ?_
    refine W_region rfl ?_
    refine WO_p (PS_move_slice rfl) ?_
    refine WO_p (PS_lenS Hvad.runUnderlying32 rfl) ?_
    refine WO_make (z := .int .u8 0) Hvad.underlying32 info5 rfl rfl rfl (by omega) (by omega) (by show (1:Int) * _ ≤ _; omega) (by omega) ?_
    rw [show ((n:Int)).toNat = n from Int.toNat_natCast n, hz]
    refine WO_p (PS_assign_slice rfl) ?_
    refine WO_nil ?_
    refine thn_normal ?_
    refine W_seq ?_
    refine W_region rfl ?_
    refine WO_p (PS_move_slice rfl) ?_
    refine WO_p (PS_move_slice rfl) ?_
    refine WO_copy n Hvad.runUnderlying32 Hvad.sizeOf5 rfl rfl (Hb.h (Hb.newY _ _)) (Hb.h (Hb.alloc hb1)) (Nat.min_self n) (by rw [size_ic, List.length_replicate]; omega) ho hxt.h oneCell_ic ?_
    rw [splice_whole rfl (by simp [ic, hLl])]
    refine WO_nil ?_
    refine thn_normal ?_
    refine W_seq ?_
    refine W_region rfl ?_
    refine WO_p (PS_move_slice rfl) ?_
    refine WO_p (PS_assign_slice rfl) ?_
    refine WO_nil ?_
    refine thn_normal ?_
    refine W_ret ?_
    refine bodyQ_ret1 Hvad.results54 rfl (.slice _ _ _) rfl ?_
    first
    | exact ⟨(by repeat (first | assumption | exact Ext.refl _ | refine Ext.alloc ?_ _ | refine Ext.drew ?_ | refine Ext.setB ?_ (by first | omega | (simp only [size_alloc, size_setB, size_drew]; omega)) _ | refine Ext.trans ?_ (by assumption))), (none, 0, 0), rfl, Or.inl ⟨rfl, rfl⟩⟩
    | exact ⟨(by repeat (first | assumption | exact Ext.refl _ | refine Ext.alloc ?_ _ | refine Ext.drew ?_ | refine Ext.setB ?_ (by first | omega | (simp only [size_alloc, size_setB, size_drew]; omega)) _ | refine Ext.trans ?_ (by assumption))), (some ⟨w.heap.size, 0, none⟩, n, n), rfl, Or.inr ⟨by intro e; rw [e] at hLl; simp at hLl; omega, w.heap.size, by rw [hLl], Nat.le_refl _, Hb.setSameL (by first | omega | (simp only [size_alloc, size_setB, size_drew]; omega))⟩⟩

end Go.Proofs.YgvadwGreat
