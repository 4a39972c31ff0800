import Derived.Test.YgvadwGreatTa
namespace Go.Proofs.YgvadwGreat
set_option linter.unusedSimpArgs false
set_option linter.unusedVariables false
theorem by8_8 {D : List Int} {o : Nat} (h : By8 D) (ho : o + 8 ≤ D.length) : ∃ p0 p1 p2 p3 p4 p5 p6 p7 : Int, (D.drop o).take 8 = [p0, p1, p2, p3, p4, p5, p6, p7] ∧ (0 ≤ p0 ∧ p0 ≤ 255) ∧ (0 ≤ p1 ∧ p1 ≤ 255) ∧ (0 ≤ p2 ∧ p2 ≤ 255) ∧ (0 ≤ p3 ∧ p3 ≤ 255) ∧ (0 ≤ p4 ∧ p4 ≤ 255) ∧ (0 ≤ p5 ∧ p5 ≤ 255) ∧ (0 ≤ p6 ∧ p6 ≤ 255) ∧ (0 ≤ p7 ∧ p7 ≤ 255) := by
  obtain ⟨p0, p1, p2, p3, p4, p5, p6, p7, e⟩ := len8 (l := (D.drop o).take 8) (by simp; omega)
  have hb : ∀ x ∈ [p0, p1, p2, p3, p4, p5, p6, p7], 0 ≤ x ∧ x ≤ 255 := by
    rw [← e]; intro x hx; exact h x (List.mem_of_mem_drop (List.mem_of_mem_take hx))
  exact ⟨p0, p1, p2, p3, p4, p5, p6, p7, e, hb _ (by simp), hb _ (by simp), hb _ (by simp), hb _ (by simp), hb _ (by simp), hb _ (by simp), hb _ (by simp), hb _ (by simp)⟩

set_option maxRecDepth 10000 in
theorem copiedM_spec (s : SV) (L : List Int) (w : World) (hs : SC w .u8 1 s L) (hL : s.2.1 ≤ 1000000) : Ret Hvad.prog 156 #[.slice s.1 s.2.1 s.2.2] w fun u w' => Ext w w' ∧ ∃ s', u = .slice s'.1 s'.2.1 s'.2.2 ∧ NewB w w' s' L := by
  obtain ⟨p, n, cap⟩ := s
  obtain ⟨hsl, hss⟩ := hs
  dsimp only at hsl hss hL ⊢
  refine Ret_of_W Hvad.func156 rfl rfl ?_
  refine W_seq ?_
  refine W_region rfl ?_
  refine WO_p (PS_assign_slice rfl) ?_
  refine WO_nil ?_
  refine thn_normal ?_
  refine W_seq ?_
  refine W_seq ?_
  refine W_region rfl ?_
  refine WO_p (PS_move_slice rfl) ?_
  refine WO_p (PS_lenS Hvad.runUnderlying32 rfl) ?_
  refine WO_p (PS_eql rfl rfl) ?_
  refine WO_nil ?_
  refine thn_normal ?_
  refine W_if rfl (fun hb2 => ?_) (fun hb2 => ?_)
  · have hb2p := hb2.h; try simp only [al_ete, al_dfn, Bool.not_eq_true', Bool.not_eq_false', al_ne, Bool.not_not, al_nn] at hb2p
    obtain rfl : n = 0 := by omega
    obtain rfl : L = [] := List.eq_nil_of_length_eq_zero (by omega)
    refine W_seq ?_
    refine W_region rfl ?_
    refine WO_p (PS_assign_slice rfl) ?_
    refine WO_nil ?_
    refine thn_normal ?_
    refine W_ret ?_
    refine thn_ret ?_
    refine bodyQ_ret1 Hvad.results156 rfl (.slice _ _ _) rfl ?_
    first
    | exact ⟨(by repeat (first | assumption | exact Ext.refl _ | refine Ext.alloc ?_ _ | refine Ext.drew ?_ | refine Ext.setB ?_ (by first | omega | (simp only [size_alloc, size_setB, size_drew]; omega)) _ | refine Ext.trans ?_ (by assumption))), (none, 0, 0), rfl, Or.inl ⟨rfl, rfl⟩⟩
    | exact ⟨(by repeat (first | assumption | exact Ext.refl _ | refine Ext.alloc ?_ _ | refine Ext.drew ?_ | refine Ext.setB ?_ (by first | omega | (simp only [size_alloc, size_setB, size_drew]; omega)) _ | refine Ext.trans ?_ (by assumption))), (some ⟨w.heap.size, 0, none⟩, n, n), rfl, Or.inr ⟨by intro e; rw [e] at hLl; simp at hLl; omega, w.heap.size, by rw [hLl], Nat.le_refl _, Hb.setSameL (by first | omega | (simp only [size_alloc, size_setB, size_drew]; omega))⟩⟩
  · have hb2p := hb2.h; try simp only [al_ete, al_dfn, Bool.not_eq_true', Bool.not_eq_false', al_ne, Bool.not_not, al_nn] at hb2p
    obtain ⟨b, o, r, T, fz, hp1, hb1, ho, hxt⟩ := hss.resolve_left (fun h => by omega)
    subst hp1
    have hLl : L.length = n := by omega
    have hz : madeCells (Value.int IntKind.u8 0).cells (n * Hvad.t5.size) = ic .u8 (List.replicate n 0) := by rw [show Hvad.t5.size = 1 from rfl, Nat.mul_one]; exact made_ic .u8 n
    refine W_skip ?_
    refine thn_normal ?_
    refine W_seq ?_
    refine W_region rfl ?_
    refine WO_p (PS_move_slice rfl) ?_
    refine WO_p (PS_lenS Hvad.runUnderlying32 rfl) ?_
    refine WO_make (z := .int .u8 0) Hvad.underlying32 info5 rfl rfl rfl (by omega) (by omega) (by show (1:Int) * _ ≤ _; omega) (by omega) ?_
    rw [show ((n:Int)).toNat = n from Int.toNat_natCast n, hz]
    refine WO_p (PS_assign_slice rfl) ?_
    refine WO_nil ?_
    refine thn_normal ?_
    refine W_seq ?_
    refine W_region rfl ?_
    refine WO_p (PS_move_slice rfl) ?_
    refine WO_p (PS_move_slice rfl) ?_
    refine WO_copy n Hvad.runUnderlying32 Hvad.sizeOf5 rfl rfl (Hb.h (Hb.newY _ _)) (Hb.h (Hb.alloc hb1)) (Nat.min_self n) (by rw [size_ic, List.length_replicate]; omega) ho hxt.h oneCell_ic ?_
    rw [splice_whole rfl (by simp [ic, hLl])]
    refine WO_nil ?_
    refine thn_normal ?_
    refine W_seq ?_
    refine W_region rfl ?_
    refine WO_p (PS_move_slice rfl) ?_
    refine WO_p (PS_assign_slice rfl) ?_
    refine WO_nil ?_
    refine thn_normal ?_
    refine W_ret ?_
    refine bodyQ_ret1 Hvad.results156 rfl (.slice _ _ _) rfl ?_
    first
    | exact ⟨(by repeat (first | assumption | exact Ext.refl _ | refine Ext.alloc ?_ _ | refine Ext.drew ?_ | refine Ext.setB ?_ (by first | omega | (simp only [size_alloc, size_setB, size_drew]; omega)) _ | refine Ext.trans ?_ (by assumption))), (none, 0, 0), rfl, Or.inl ⟨rfl, rfl⟩⟩
    | exact ⟨(by repeat (first | assumption | exact Ext.refl _ | refine Ext.alloc ?_ _ | refine Ext.drew ?_ | refine Ext.setB ?_ (by first | omega | (simp only [size_alloc, size_setB, size_drew]; omega)) _ | refine Ext.trans ?_ (by assumption))), (some ⟨w.heap.size, 0, none⟩, n, n), rfl, Or.inr ⟨by intro e; rw [e] at hLl; simp at hLl; omega, w.heap.size, by rw [hLl], Nat.le_refl _, Hb.setSameL (by first | omega | (simp only [size_alloc, size_setB, size_drew]; omega))⟩⟩

theorem mem3 {N : List Int} (hl : N.length = 3) (h : ∀ x ∈ N, 0 ≤ x ∧ x ≤ 64) (i : Nat) (hi : i < 3) : 0 ≤ N.getD i 0 ∧ N.getD i 0 ≤ 64 := by
  rw [List.getD_eq_getElem?_getD, List.getElem?_eq_getElem (by omega)]
  exact h _ (List.getElem_mem _)
theorem ln_pos {x : Int} {n : Nat} (h : Ln x n) (h0 : 0 ≤ x) (hx : x ≠ 0) : 1 ≤ n := by
  cases n with
  | zero => have := h.1; simp at this; omega
  | succ k => omega
theorem nat_of {x : Int} (h : 0 ≤ x) : ∃ n : Nat, x = n := ⟨x.toNat, by omega⟩
set_option maxRecDepth 10000 in
set_option maxHeartbeats 4000000 in
theorem lengths_spec (s : SV) (L : List Int) (w : World) (hs : SC w .u8 1 s L) (hL : By8 L) (hc : s.2.1 ≤ s.2.2) (hl : s.2.1 ≤ 1000000) : Ret Hvad.prog 146 #[.slice s.1 s.2.1 s.2.2] w fun u w' => Ext w w' ∧ ∃ (nb ne nm : Nat) (ok : Bool), u = .tuple #[.int .i64 nb, .int .i64 ne, .int .i64 nm, .bool ok] ∧ nb ≤ 64 ∧ ne ≤ 64 ∧ nm ≤ 64 := by
  refine Ret_of_W Hvad.func146 rfl rfl ?_
  refine W_seq ?_
  refine W_region rfl ?_
  refine WO_p (PS_assign_int rfl) ?_
  refine WO_p (PS_assign_int rfl) ?_
  refine WO_p (PS_assign_int rfl) ?_
  refine WO_p (PS_assign_bool rfl) ?_
  refine WO_nil ?_
  refine thn_normal ?_
  refine W_seq ?_
  refine W_region rfl ?_
  refine WO_allocG Hvad.zeroValue277 ?_
  intro b6 v6 hg6 hE6 hH6 hl6
  try simp only [size_alloc, size_setB, size_drew] at hg6
  have hzz6 := hE6.1
  try simp only [size_alloc, size_setB, size_drew] at hzz6
  replace hH6 : Hb v6 b6 (.cells (ic .i64 [0, 0, 0]) 277 (0, 0)) := hH6
  refine WO_nil ?_
  refine thn_normal ?_
  refine W_seq ?_
  refine W_seq ?_
  refine W_region rfl ?_
  refine WO_p (PS_move_int rfl) ?_
  refine WO_nil ?_
  refine thn_normal ?_
  refine W_block ?_
  refine W_loopN (fun m ρ w' => ∃ (i : Nat) (N6 : List Int), i + m = 3 ∧ N6.length = 3 ∧ (∀ x ∈ N6, 0 ≤ x ∧ x ≤ 64) ∧ Fr [(0, .slice s.1 s.2.1 s.2.2), (6, .pointer (some ⟨b6, 0, none⟩)), (11, .int .i64 i)] ρ ∧ Ext w w' ∧ v6.heap.size ≤ w'.heap.size ∧ Hb w' b6 (.cells (ic .i64 N6) 277 (0, 0))) 3 ?_ ?_
  · exact ⟨0, [0, 0, 0], rfl, rfl, by decide, ⟨rfl, rfl, rfl, trivial⟩, (by repeat (first | assumption | exact Ext.refl _ | refine Ext.alloc ?_ _ | refine Ext.drew ?_ | refine Ext.setB ?_ (by first | omega | (simp only [size_alloc, size_setB, size_drew]; omega)) _ | refine Ext.trans ?_ (by assumption))), Nat.le_refl _, hH6⟩
  intro m ρ w3 hI
  obtain ⟨i, N6, him, hn6, hN6, hF3, hE3, hz3v, hb63⟩ := hI
  refine W_env _ hF3 ?_
  have hz3 := hE3.1
  refine W_seq ?_
  refine W_region rfl ?_
  refine WO_p (PS_lss rfl rfl) ?_
  refine WO_nil ?_
  refine thn_normal ?_
  refine W_seq ?_
  refine W_if rfl (fun hb2 => ?_) (fun hb2 => ?_)
  · have hb2p := hb2.h; try simp only [al_ete, al_dfn, Bool.not_eq_true', Bool.not_eq_false', al_ne, Bool.not_not, al_nn] at hb2p
    refine W_skip ?_
    refine thn_normal ?_
    refine W_seq ?_
    refine W_block ?_
    refine W_seq ?_
    refine W_region rfl ?_
    refine WO_p (PS_move_int rfl) ?_
    refine WO_p (PS_assign_int rfl) ?_
    refine WO_nil ?_
    refine thn_normal ?_
    refine W_seq ?_
    refine W_region rfl ?_
    refine WO_allocG Hvad.zeroValue27 ?_
    intro b8 v8 hg8 hE8 hH8 hl8
    try simp only [size_alloc, size_setB, size_drew] at hg8
    have hzz8 := hE8.1
    try simp only [size_alloc, size_setB, size_drew] at hzz8
    replace hH8 : Hb v8 b8 (.cells (ic .u8 (List.replicate 32 0)) 27 (0, 0)) := hH8
    refine WO_nil ?_
    refine thn_normal ?_
    refine W_seq ?_
    refine W_region rfl ?_
    refine WO_p (PS_slA Hvad.runUnderlying27 Hvad.sizeOf5 rfl (by omega)) ?_
    refine WO_p (PS_move_slice rfl) ?_
    refine WO_p (PS_move_int rfl) ?_
    refine WO_p (PS_mul_i64n rfl rfl (by omega) (by omega)) ?_
    rw [show (32 : Int) * i = ((32 * i : Nat) : Int) by omega]
    refine WO_call Hvad.call147 (by rfl) (Ret.mono (part_spec b8 32 27 (List.replicate 32 0) s L (32 * i) 32 _ (Hb.mk (Hb.h (by repeat (first | assumption | exact Hb.newY _ _ | refine Hb.alloc ?_ | refine Hb.drew ?_ | refine Hb.ext (by assumption) ?_ | exact Hb.setSameL (by first | omega | (simp only [size_alloc, size_setB, size_drew]; omega)) | exact Hb.setSame (by assumption) | refine Hb.set (by first | omega | (simp only [size_alloc, size_setB, size_drew]; omega)) ?_ )))) (by simp) (by omega) (SC.ext hs (by repeat (first | assumption | exact Ext.refl _ | refine Ext.alloc ?_ _ | refine Ext.drew ?_ | refine Ext.setB ?_ (by first | omega | (simp only [size_alloc, size_setB, size_drew]; omega)) _ | exact Ext.trans (by assumption) (by assumption) | refine Ext.trans ?_ (by assumption)))) hL hc hl (by omega) (Nat.le_refl _)) ?_)
    rintro _ w6 ⟨D6, hT6⟩
    have hz6 := hT6.keep.sz
    have hE6' : Ext w w6 := hT6.ext (by repeat (first | assumption | exact Ext.refl _ | refine Ext.alloc ?_ _ | refine Ext.drew ?_ | refine Ext.setB ?_ (by first | omega | (simp only [size_alloc, size_setB, size_drew]; omega)) _ | exact Ext.trans (by assumption) (by assumption) | refine Ext.trans ?_ (by assumption))) (by omega)
    have hD6 : By D6 32 := ⟨by rw [hT6.len]; simp, hT6.ty (by_zero 32)⟩
    have hD6l := hD6.1
    have hb66 := hT6.other (Hb.mk (Hb.h (by repeat (first | assumption | exact Hb.newY _ _ | refine Hb.alloc ?_ | refine Hb.drew ?_ | refine Hb.ext (by assumption) ?_ | exact Hb.setSameL (by first | omega | (simp only [size_alloc, size_setB, size_drew]; omega)) | exact Hb.setSame (by assumption) | refine Hb.set (by first | omega | (simp only [size_alloc, size_setB, size_drew]; omega)) ?_ ))) : Hb _ b6 (.cells (ic .i64 N6) 277 (0, 0))) (by omega)
    have hb86 := hT6.hb
    have hfw := fromB_wd hD6.2
    have hxw : Xt (ic .u8 D6) 0 (0 + 32) (ic .u8 D6) := Xt.whole rfl (by rw [size_ic]; omega)
    refine WO_nil ?_
    refine thn_normal ?_
    refine W_seq ?_
    refine W_region rfl ?_
    refine WO_loadA _ Hvad.isAgg27 Hvad.sizeOf27 rfl (Hb.h (by repeat (first | assumption | exact Hb.newY _ _ | refine Hb.alloc ?_ | refine Hb.drew ?_ | refine Hb.ext (by assumption) ?_ | exact Hb.setSameL (by first | omega | (simp only [size_alloc, size_setB, size_drew]; omega)) | exact Hb.setSame (by assumption) | refine Hb.set (by first | omega | (simp only [size_alloc, size_setB, size_drew]; omega)) ?_ ))) (by first | omega | assumption | rfl | decide | exact Nat.le_refl _ | (simp only [size_ic, Value.cells]; omega) | simp) (Xt.h (by first | assumption | exact Xt.whole rfl rfl | exact Xt.whole rfl (by simp only [size_ic, Value.cells]; omega) | exact ⟨rfl⟩)) ?_
    refine WO_call Hvad.call39 (by rfl) (Ret.mono (fromBytes_spec _ _ hD6) ?_)
    rintro _ w39_3 ⟨rfl, hE39_3⟩
    have hz39_3 := hE39_3.1
    try simp only [size_alloc, size_setB, size_drew] at hz39_3
    refine WO_call Hvad.call196 (by rfl) (Ret.mono (u64x_spec _ _ hfw) ?_)
    rintro _ w196_4 ⟨hE196_4, x9, rfl, hx9, hx9b⟩
    have hz196_4 := hE196_4.1
    try simp only [size_alloc, size_setB, size_drew] at hz196_4
    refine WO_p (PS_move_tuple rfl) ?_
    refine WO_p (PS_extract_int rfl rfl) ?_
    refine WO_p (PS_extract_bool rfl rfl) ?_
    refine WO_p (PS_assign_int rfl) ?_
    refine WO_p (PS_assign_bool rfl) ?_
    refine WO_nil ?_
    refine thn_normal ?_
    refine W_seq ?_
    refine W_seq ?_
    refine W_region rfl ?_
    refine WO_p (PS_move_bool rfl) ?_
    refine WO_p (PS_not rfl) ?_
    refine WO_p (PS_move_bool rfl) ?_
    refine WO_if (t := 27) rfl (fun hb8 => ?_) (fun hb8 => ?_)
    · have hb8p := hb8.h; try simp only [al_ete, al_dfn, Bool.not_eq_true', Bool.not_eq_false', al_ne, Bool.not_not, al_nn] at hb8p
      refine WO_guardF rfl rfl hb8.h ?_
      refine WO_guardF rfl rfl hb8.h ?_
      refine WO_p (PS_pickT rfl hb8.h rfl) ?_
      refine WO_nil ?_
      refine thn_normal ?_
      refine W_condT rfl rfl ?_
      refine W_seq ?_
      refine W_region rfl ?_
      refine WO_p (PS_assign_int rfl) ?_
      refine WO_p (PS_assign_int rfl) ?_
      refine WO_p (PS_assign_int rfl) ?_
      refine WO_p (PS_assign_bool rfl) ?_
      refine WO_nil ?_
      refine thn_normal ?_
      refine W_ret ?_
      refine thn_ret ?_
      refine inBlk_ret ?_
      refine thn_ret ?_
      refine thn_ret ?_
      refine inBlk_ret ?_
      refine thn_ret ?_
      refine bodyQ_ret4 Hvad.results146 rfl rfl rfl rfl (.int _ _) (.int _ _) (.int _ _) (.bool _) rfl rfl rfl rfl ?_
      exact ⟨(by repeat (first | assumption | exact Ext.refl _ | refine Ext.alloc ?_ _ | refine Ext.drew ?_ | refine Ext.setB ?_ (by first | omega | (simp only [size_alloc, size_setB, size_drew]; omega)) _ | exact Ext.trans (by assumption) (by assumption) | refine Ext.trans ?_ (by assumption))), 0, 0, 0, false, rfl, by omega, by omega, by omega⟩
    · have hb8p := hb8.h; try simp only [al_ete, al_dfn, Bool.not_eq_true', Bool.not_eq_false', al_ne, Bool.not_not, al_nn] at hb8p
      refine WO_guardT rfl rfl hb8.h ?_
      refine WO_p (PS_move_int rfl) ?_
      refine WO_guardT rfl rfl hb8.h ?_
      refine WO_p (PS_gtr rfl rfl) ?_
      refine WO_p (PS_pickF rfl hb8.h rfl) ?_
      refine WO_nil ?_
      refine thn_normal ?_
      refine W_if rfl (fun hb10 => ?_) (fun hb10 => ?_)
      · have hb10p := hb10.h; try simp only [al_ete, al_dfn, Bool.not_eq_true', Bool.not_eq_false', al_ne, Bool.not_not, al_nn] at hb10p
        refine W_seq ?_
        refine W_region rfl ?_
        refine WO_p (PS_assign_int rfl) ?_
        refine WO_p (PS_assign_int rfl) ?_
        refine WO_p (PS_assign_int rfl) ?_
        refine WO_p (PS_assign_bool rfl) ?_
        refine WO_nil ?_
        refine thn_normal ?_
        refine W_ret ?_
        refine thn_ret ?_
        refine inBlk_ret ?_
        refine thn_ret ?_
        refine thn_ret ?_
        refine inBlk_ret ?_
        refine thn_ret ?_
        refine bodyQ_ret4 Hvad.results146 rfl rfl rfl rfl (.int _ _) (.int _ _) (.int _ _) (.bool _) rfl rfl rfl rfl ?_
        exact ⟨(by repeat (first | assumption | exact Ext.refl _ | refine Ext.alloc ?_ _ | refine Ext.drew ?_ | refine Ext.setB ?_ (by first | omega | (simp only [size_alloc, size_setB, size_drew]; omega)) _ | exact Ext.trans (by assumption) (by assumption) | refine Ext.trans ?_ (by assumption))), 0, 0, 0, false, rfl, by omega, by omega, by omega⟩
      · have hb10p := hb10.h; try simp only [al_ete, al_dfn, Bool.not_eq_true', Bool.not_eq_false', al_ne, Bool.not_not, al_nn] at hb10p
        refine W_skip ?_
        refine thn_normal ?_
        refine W_region rfl ?_
        refine WO_p (PS_move_int rfl) ?_
        refine WO_p (PS_move_int rfl) ?_
        refine WO_p (PS_conv_i64n Hvad.runUnderlying26 Hvad.runUnderlying3 rfl (by omega) (by omega)) ?_
        refine WO_p (PS_indexA Hvad.runUnderlying277 Hvad.sizeOf3 rfl rfl (by omega) (by omega)) ?_
        refine WO_store1 Hvad.sizeOf3 rfl (v := .int _ _) rfl (Hb.h (by repeat (first | assumption | exact Hb.newY _ _ | refine Hb.alloc ?_ | refine Hb.drew ?_ | refine Hb.ext (by assumption) ?_ | exact Hb.setSameL (by first | omega | (simp only [size_alloc, size_setB, size_drew]; omega)) | exact Hb.setSame (by assumption) | refine Hb.set (by first | omega | (simp only [size_alloc, size_setB, size_drew]; omega)) ?_ ))) rfl (by rw [size_ic]; omega) rfl ?_
        rw [show (i : Int).toNat = i by omega, ic_set]
        refine WO_nil ?_
        refine inBlk_normal ?_
        refine thn_normal ?_
        refine W_region rfl ?_
        refine WO_p (PS_add_i64n rfl rfl (by omega) (by omega)) ?_
        refine WO_p (PS_move_int rfl) ?_
        refine WO_nil ?_
        refine thn_normal ?_
        exact ⟨m - 1, by omega, i + 1, N6.set i x9, by omega, by simp [hn6], mem_set hN6 (by omega), ⟨rfl, rfl, congrArg (Value.int .i64) (by omega), trivial⟩, (by repeat (first | assumption | exact Ext.refl _ | refine Ext.alloc ?_ _ | refine Ext.drew ?_ | refine Ext.setB ?_ (by first | omega | (simp only [size_alloc, size_setB, size_drew]; omega)) _ | exact Ext.trans (by assumption) (by assumption) | refine Ext.trans ?_ (by assumption))), by first | omega | (simp only [size_setB]; omega), Hb.mk (Hb.h (by repeat (first | assumption | exact Hb.newY _ _ | refine Hb.alloc ?_ | refine Hb.drew ?_ | refine Hb.ext (by assumption) ?_ | exact Hb.setSameL (by first | omega | (simp only [size_alloc, size_setB, size_drew]; omega)) | exact Hb.setSame (by assumption) | refine Hb.set (by first | omega | (simp only [size_alloc, size_setB, size_drew]; omega)) ?_ )))⟩
  · have hb2p := hb2.h; try simp only [al_ete, al_dfn, Bool.not_eq_true', Bool.not_eq_false', al_ne, Bool.not_not, al_nn] at hb2p
    refine W_exit ?_
    refine thn_exit ?_
    refine thn_exit ?_
    refine inBlk_exit ?_
    refine thn_normal ?_
    refine W_seq ?_
    have m0 := mem3 hn6 hN6 0 (by decide)
    have m1 := mem3 hn6 hN6 1 (by decide)
    have m2 := mem3 hn6 hN6 2 (by decide)
    have c0 : Ce (ic .i64 N6) (0 + (0 : Int).toNat * 1) (.int .i64 (N6.getD 0 0)) := ce_ic (by omega)
    have c1 : Ce (ic .i64 N6) (0 + (1 : Int).toNat * 1) (.int .i64 (N6.getD 1 0)) := ce_ic (by omega)
    have c2 : Ce (ic .i64 N6) (0 + (2 : Int).toNat * 1) (.int .i64 (N6.getD 2 0)) := ce_ic (by omega)
    generalize N6.getD 0 0 = x0 at *
    generalize N6.getD 1 0 = x1 at *
    generalize N6.getD 2 0 = x2 at *
    obtain ⟨n0, rfl⟩ := nat_of m0.1
    obtain ⟨n1, rfl⟩ := nat_of m1.1
    obtain ⟨n2, rfl⟩ := nat_of m2.1
    refine W_drawE [false, false, false, false, false, false, false, false, false, false] hmix (by kernel_rfl) rfl ?_
    refine WH_p (PS_indexA Hvad.runUnderlying277 Hvad.sizeOf3 rfl rfl (by omega) (by omega)) rfl ?_
    refine WH_load (.int _ _) Hvad.isAgg3 rfl (Hb.h (by repeat (first | assumption | exact Hb.newY _ _ | refine Hb.alloc ?_ | refine Hb.drew ?_ | refine Hb.ext (by assumption) ?_ | exact Hb.setSameL (by first | omega | (simp only [size_alloc, size_setB, size_drew]; omega)) | exact Hb.setSame (by assumption) | refine Hb.set (by first | omega | (simp only [size_alloc, size_setB, size_drew]; omega)) ?_ ))) (Ce.h (by first | assumption | exact ⟨rfl⟩)) ?_
    refine WH_p (PS_indexA Hvad.runUnderlying277 Hvad.sizeOf3 rfl rfl (by omega) (by omega)) rfl ?_
    refine WH_load (.int _ _) Hvad.isAgg3 rfl (Hb.h (by repeat (first | assumption | exact Hb.newY _ _ | refine Hb.alloc ?_ | refine Hb.drew ?_ | refine Hb.ext (by assumption) ?_ | exact Hb.setSameL (by first | omega | (simp only [size_alloc, size_setB, size_drew]; omega)) | exact Hb.setSame (by assumption) | refine Hb.set (by first | omega | (simp only [size_alloc, size_setB, size_drew]; omega)) ?_ ))) (Ce.h (by first | assumption | exact ⟨rfl⟩)) ?_
    refine WH_p (PS_indexA Hvad.runUnderlying277 Hvad.sizeOf3 rfl rfl (by omega) (by omega)) rfl ?_
    refine WH_load (.int _ _) Hvad.isAgg3 rfl (Hb.h (by repeat (first | assumption | exact Hb.newY _ _ | refine Hb.alloc ?_ | refine Hb.drew ?_ | refine Hb.ext (by assumption) ?_ | exact Hb.setSameL (by first | omega | (simp only [size_alloc, size_setB, size_drew]; omega)) | exact Hb.setSame (by assumption) | refine Hb.set (by first | omega | (simp only [size_alloc, size_setB, size_drew]; omega)) ?_ ))) (Ce.h (by first | assumption | exact ⟨rfl⟩)) ?_
    refine WH_p (PS_assign_int rfl) rfl ?_
    refine WH_p (PS_assign_int rfl) rfl ?_
    refine WH_p (PS_assign_int rfl) rfl ?_
    refine WH_p (PS_assign_bool rfl) rfl ?_
    refine WH_nil ?_
    refine thn_normal ?_
    refine W_ret ?_
    refine bodyQ_ret4 Hvad.results146 rfl rfl rfl rfl (.int _ _) (.int _ _) (.int _ _) (.bool _) rfl rfl rfl rfl ?_
    exact ⟨(by repeat (first | assumption | exact Ext.refl _ | refine Ext.alloc ?_ _ | refine Ext.drew ?_ | refine Ext.setB ?_ (by first | omega | (simp only [size_alloc, size_setB, size_drew]; omega)) _ | exact Ext.trans (by assumption) (by assumption) | refine Ext.trans ?_ (by assumption))), n0, n1, n2, true, rfl, by omega, by omega, by omega⟩

set_option maxRecDepth 10000 in
set_option maxHeartbeats 4000000 in
theorem operand_spec (s : SV) (L : List Int) (off n : Nat) (w : World) (hs : SC w .u8 1 s L) (hL : By8 L) (hc : s.2.1 ≤ s.2.2) (hl : s.2.1 ≤ 1000000) (hoff : off ≤ 1000) (hn : n ≤ 64) : Ret Hvad.prog 157 #[.slice s.1 s.2.1 s.2.2, .int .i64 off, .int .i64 n] w fun u w' => Ext w w' ∧ ∃ R, u = .agg (ic .u64 R) ∧ R.length = 8 ∧ UL R := by
  refine Ret_of_W Hvad.func157 rfl rfl ?_
  refine W_seq ?_
  refine W_region rfl ?_
  refine WO_allocG Hvad.zeroValue224 ?_
  intro b6 v6 hg6 hE6 hH6 hl6
  try simp only [size_alloc, size_setB, size_drew] at hg6
  have hzz6 := hE6.1
  try simp only [size_alloc, size_setB, size_drew] at hzz6
  replace hH6 : Hb v6 b6 (.cells (ic .u64 (List.replicate 8 0)) 224 (0, 0)) := hH6
  refine WO_nil ?_
  refine thn_normal ?_
  refine W_seq ?_
  refine W_region rfl ?_
  refine WO_allocG Hvad.zeroValue228 ?_
  intro b7 v7 hg7 hE7 hH7 hl7
  try simp only [size_alloc, size_setB, size_drew] at hg7
  have hzz7 := hE7.1
  try simp only [size_alloc, size_setB, size_drew] at hzz7
  replace hH7 : Hb v7 b7 (.cells (ic .u8 (List.replicate 64 0)) 228 (0, 0)) := hH7
  refine WO_nil ?_
  refine thn_normal ?_
  refine W_seq ?_
  refine W_region rfl ?_
  refine WO_p (PS_slA Hvad.runUnderlying228 Hvad.sizeOf5 rfl (by omega)) ?_
  refine WO_p (PS_move_slice rfl) ?_
  refine WO_p (PS_move_int rfl) ?_
  refine WO_p (PS_move_int rfl) ?_
  refine WO_call Hvad.call147 (by rfl) (Ret.mono (part_spec b7 64 228 (List.replicate 64 0) s L off n _ (Hb.mk (Hb.h (by repeat (first | assumption | exact Hb.newY _ _ | refine Hb.alloc ?_ | refine Hb.drew ?_ | refine Hb.ext (by assumption) ?_ | exact Hb.setSameL (by first | omega | (simp only [size_alloc, size_setB, size_drew]; omega)) | exact Hb.setSame (by assumption) | refine Hb.set (by first | omega | (simp only [size_alloc, size_setB, size_drew]; omega)) ?_ )))) (by simp) (by omega) (SC.ext hs (by repeat (first | assumption | exact Ext.refl _ | refine Ext.alloc ?_ _ | refine Ext.drew ?_ | refine Ext.setB ?_ (by first | omega | (simp only [size_alloc, size_setB, size_drew]; omega)) _ | exact Ext.trans (by assumption) (by assumption) | refine Ext.trans ?_ (by assumption)))) hL hc hl hoff hn) ?_)
  rintro _ w2 ⟨D2, hT2⟩
  have hz2 := hT2.keep.sz
  have hE2' : Ext w w2 := hT2.ext (by repeat (first | assumption | exact Ext.refl _ | refine Ext.alloc ?_ _ | refine Ext.drew ?_ | refine Ext.setB ?_ (by first | omega | (simp only [size_alloc, size_setB, size_drew]; omega)) _ | exact Ext.trans (by assumption) (by assumption) | refine Ext.trans ?_ (by assumption))) (by omega)
  have hD2 : By8 D2 := hT2.ty (by_zero 64)
  have hD2l : D2.length = 64 := by rw [hT2.len]; simp
  have hb62 := hT2.other (Hb.mk (Hb.h (by repeat (first | assumption | exact Hb.newY _ _ | refine Hb.alloc ?_ | refine Hb.drew ?_ | refine Hb.ext (by assumption) ?_ | exact Hb.setSameL (by first | omega | (simp only [size_alloc, size_setB, size_drew]; omega)) | exact Hb.setSame (by assumption) | refine Hb.set (by first | omega | (simp only [size_alloc, size_setB, size_drew]; omega)) ?_ ))) : Hb _ b6 (.cells (ic .u64 (List.replicate 8 0)) 224 (0, 0))) (by omega)
  have hb72 := hT2.hb
  refine WO_nil ?_
  refine thn_normal ?_
  refine W_seq ?_
  refine W_region rfl ?_
  refine WO_allocG Hvad.zeroValue224 ?_
  intro b8 v8 hg8 hE8 hH8 hl8
  try simp only [size_alloc, size_setB, size_drew] at hg8
  have hzz8 := hE8.1
  try simp only [size_alloc, size_setB, size_drew] at hzz8
  replace hH8 : Hb v8 b8 (.cells (ic .u64 (List.replicate 8 0)) 224 (0, 0)) := hH8
  refine WO_nil ?_
  refine thn_normal ?_
  refine W_seq ?_
  refine W_seq ?_
  refine W_region rfl ?_
  refine WO_p (PS_move_int rfl) ?_
  refine WO_nil ?_
  refine thn_normal ?_
  refine W_block ?_
  refine W_loopN (fun m ρ w' => ∃ (i : Nat) (R8 : List Int), i + m = 8 ∧ R8.length = 8 ∧ UL R8 ∧ Fr [(6, .pointer (some ⟨b6, 0, none⟩)), (7, .pointer (some ⟨b7, 0, none⟩)), (8, .pointer (some ⟨b8, 0, none⟩)), (17, .int .i64 i)] ρ ∧ Ext w w' ∧ v8.heap.size ≤ w'.heap.size ∧ Hb w' b6 (.cells (ic .u64 (List.replicate 8 0)) 224 (0, 0)) ∧ Hb w' b7 (.cells (ic .u8 D2) 228 (0, 0)) ∧ Hb w' b8 (.cells (ic .u64 R8) 224 (0, 0))) 8 ?_ ?_
  · exact ⟨0, List.replicate 8 0, rfl, by simp, ULr 8, ⟨rfl, rfl, rfl, rfl, trivial⟩, (by repeat (first | assumption | exact Ext.refl _ | refine Ext.alloc ?_ _ | refine Ext.drew ?_ | refine Ext.setB ?_ (by first | omega | (simp only [size_alloc, size_setB, size_drew]; omega)) _ | refine Ext.trans ?_ (by assumption))), Nat.le_refl _, Hb.mk (Hb.h (by repeat (first | assumption | exact Hb.newY _ _ | refine Hb.alloc ?_ | refine Hb.drew ?_ | refine Hb.ext (by assumption) ?_ | exact Hb.setSameL (by first | omega | (simp only [size_alloc, size_setB, size_drew]; omega)) | exact Hb.setSame (by assumption) | refine Hb.set (by first | omega | (simp only [size_alloc, size_setB, size_drew]; omega)) ?_ ))), Hb.mk (Hb.h (by repeat (first | assumption | exact Hb.newY _ _ | refine Hb.alloc ?_ | refine Hb.drew ?_ | refine Hb.ext (by assumption) ?_ | exact Hb.setSameL (by first | omega | (simp only [size_alloc, size_setB, size_drew]; omega)) | exact Hb.setSame (by assumption) | refine Hb.set (by first | omega | (simp only [size_alloc, size_setB, size_drew]; omega)) ?_ ))), Hb.mk (Hb.h (by repeat (first | assumption | exact Hb.newY _ _ | refine Hb.alloc ?_ | refine Hb.drew ?_ | refine Hb.ext (by assumption) ?_ | exact Hb.setSameL (by first | omega | (simp only [size_alloc, size_setB, size_drew]; omega)) | exact Hb.setSame (by assumption) | refine Hb.set (by first | omega | (simp only [size_alloc, size_setB, size_drew]; omega)) ?_ )))⟩
  intro m ρ w5 hI
  obtain ⟨i, R8, him, hr8, hR8, hF5, hE5, hz5v, hb65, hb75, hb85⟩ := hI
  refine W_env _ hF5 ?_
  have hz5 := hE5.1
  refine W_seq ?_
  refine W_region rfl ?_
  refine WO_p (PS_lss rfl rfl) ?_
  refine WO_nil ?_
  refine thn_normal ?_
  refine W_seq ?_
  refine W_if rfl (fun hb3 => ?_) (fun hb3 => ?_)
  · have hb3p := hb3.h; try simp only [al_ete, al_dfn, Bool.not_eq_true', Bool.not_eq_false', al_ne, Bool.not_not, al_nn] at hb3p
    obtain ⟨p0, p1, p2, p3, p4, p5, p6, p7, e8, q0, q1, q2, q3, q4, q5, q6, q7⟩ := by8_8 (o := (56 - 8 * (i : Int)).toNat) hD2 (by omega)
    have hx7 : Xt (ic .u8 D2) (0 + (56 - 8 * (i : Int)).toNat * 1) (0 + (56 - 8 * (i : Int)).toNat * 1 + 8) (ic .u8 [p0, p1, p2, p3, p4, p5, p6, p7]) := by have h := Xt.ic .u8 D2 (56 - 8 * (i : Int)).toNat 8 (by omega); rw [e8] at h; simpa using h
    refine W_skip ?_
    refine thn_normal ?_
    refine W_seq ?_
    refine W_block ?_
    refine W_seq ?_
    refine W_region rfl ?_
    refine WO_p (PS_move_int rfl) ?_
    refine WO_p (PS_assign_int rfl) ?_
    refine WO_nil ?_
    refine thn_normal ?_
    refine W_seq ?_
    refine W_region rfl ?_
    refine WO_p (PS_slA Hvad.runUnderlying228 Hvad.sizeOf5 rfl (by omega)) ?_
    refine WO_p (PS_move_int rfl) ?_
    refine WO_p (PS_mul_i64n rfl rfl (by omega) (by omega)) ?_
    refine WO_p (PS_sub_i64n rfl rfl (by omega) (by omega)) ?_
    refine WO_call Hvad.call80 (by rfl) (Ret.mono (be64_spec b7 0 64 64 (56 - 8 * (i : Int)) p0 p1 p2 p3 p4 p5 p6 p7 (ic .u8 D2) 228 (0, 0) _ (Hb.mk (Hb.h (by repeat (first | assumption | exact Hb.newY _ _ | refine Hb.alloc ?_ | refine Hb.drew ?_ | refine Hb.ext (by assumption) ?_ | exact Hb.setSameL (by first | omega | (simp only [size_alloc, size_setB, size_drew]; omega)) | exact Hb.setSame (by assumption) | refine Hb.set (by first | omega | (simp only [size_alloc, size_setB, size_drew]; omega)) ?_ )))) hx7 (by rw [size_ic]; omega) (by omega) (by omega) (by decide) (by decide) q0 q1 q2 q3 q4 q5 q6 q7) ?_)
    rintro _ w7 ⟨rfl, hE7⟩
    have hz7 := hE7.1
    have hbe : 0 ≤ be8 p0 p1 p2 p3 p4 p5 p6 p7 ∧ be8 p0 p1 p2 p3 p4 p5 p6 p7 ≤ 18446744073709551615 := by unfold be8; omega
    refine WO_p (PS_move_tuple rfl) ?_
    refine WO_p (PS_extract_int rfl rfl) ?_
    refine WO_p (PS_extract_bool rfl rfl) ?_
    refine WO_p (PS_assign_int rfl) ?_
    refine WO_p (PS_assign_bool rfl) ?_
    refine WO_nil ?_
    refine thn_normal ?_
    refine W_region rfl ?_
    refine WO_p (PS_move_int rfl) ?_
    refine WO_p (PS_move_int rfl) ?_
    refine WO_p (PS_indexA Hvad.runUnderlying224 Hvad.sizeOf26 rfl rfl (by omega) (by omega)) ?_
    refine WO_storeU (b := b8) (T := 224) (L := R8) Hvad.sizeOf26 rfl rfl (Hb.mk (Hb.h (by repeat (first | assumption | exact Hb.newY _ _ | refine Hb.alloc ?_ | refine Hb.drew ?_ | refine Hb.ext (by assumption) ?_ | exact Hb.setSameL (by first | omega | (simp only [size_alloc, size_setB, size_drew]; omega)) | exact Hb.setSame (by assumption) | refine Hb.set (by first | omega | (simp only [size_alloc, size_setB, size_drew]; omega)) ?_ )))) (by omega) hbe ?_
    intro w9 R9 hU9
    have hz9 := hU9.keep.sz
    refine WO_nil ?_
    refine inBlk_normal ?_
    refine thn_normal ?_
    refine W_region rfl ?_
    refine WO_p (PS_add_i64n rfl rfl (by omega) (by omega)) ?_
    refine WO_p (PS_move_int rfl) ?_
    refine WO_nil ?_
    refine thn_normal ?_
    exact ⟨m - 1, by omega, i + 1, R9, by omega, hU9.len.trans hr8, hU9.ty hR8, ⟨rfl, rfl, rfl, congrArg (Value.int .i64) (by omega), trivial⟩, hU9.ext1 (by repeat (first | assumption | exact Ext.refl _ | refine Ext.alloc ?_ _ | refine Ext.drew ?_ | refine Ext.setB ?_ (by first | omega | (simp only [size_alloc, size_setB, size_drew]; omega)) _ | exact Ext.trans (by assumption) (by assumption) | refine Ext.trans ?_ (by assumption))) (by omega), by omega, hU9.other (Hb.mk (Hb.h (by repeat (first | assumption | exact Hb.newY _ _ | refine Hb.alloc ?_ | refine Hb.drew ?_ | refine Hb.ext (by assumption) ?_ | exact Hb.setSameL (by first | omega | (simp only [size_alloc, size_setB, size_drew]; omega)) | exact Hb.setSame (by assumption) | refine Hb.set (by first | omega | (simp only [size_alloc, size_setB, size_drew]; omega)) ?_ )))) (by omega), hU9.other (Hb.mk (Hb.h (by repeat (first | assumption | exact Hb.newY _ _ | refine Hb.alloc ?_ | refine Hb.drew ?_ | refine Hb.ext (by assumption) ?_ | exact Hb.setSameL (by first | omega | (simp only [size_alloc, size_setB, size_drew]; omega)) | exact Hb.setSame (by assumption) | refine Hb.set (by first | omega | (simp only [size_alloc, size_setB, size_drew]; omega)) ?_ )))) (by omega), hU9.hb⟩
  · have hb3p := hb3.h; try simp only [al_ete, al_dfn, Bool.not_eq_true', Bool.not_eq_false', al_ne, Bool.not_not, al_nn] at hb3p
    refine W_exit ?_
    refine thn_exit ?_
    refine thn_exit ?_
    refine inBlk_exit ?_
    refine thn_normal ?_
    refine W_seq ?_
    have hpx : Xt (ic .u64 R8) 0 (0 + 8) (ic .u64 R8) := Xt.whole rfl (by rw [size_ic]; omega)
    have hps8 : (Value.agg (ic .u64 R8)).cells.size = 8 := by simp only [Value.cells, size_ic]; omega
    refine W_region rfl ?_
    refine WO_loadA _ Hvad.isAgg224 Hvad.sizeOf224 rfl (Hb.h (by repeat (first | assumption | exact Hb.newY _ _ | refine Hb.alloc ?_ | refine Hb.drew ?_ | refine Hb.ext (by assumption) ?_ | exact Hb.setSameL (by first | omega | (simp only [size_alloc, size_setB, size_drew]; omega)) | exact Hb.setSame (by assumption) | refine Hb.set (by first | omega | (simp only [size_alloc, size_setB, size_drew]; omega)) ?_ ))) (by first | omega | assumption | rfl | decide | exact Nat.le_refl _ | (simp only [size_ic, Value.cells]; omega) | simp) (Xt.h (by first | assumption | exact Xt.whole rfl rfl | exact Xt.whole rfl (by simp only [size_ic, Value.cells]; omega) | exact ⟨rfl⟩)) ?_
    refine WO_storeW Hvad.sizeOf224 rfl (v := .agg _) rfl (Hb.h (by repeat (first | assumption | exact Hb.newY _ _ | refine Hb.alloc ?_ | refine Hb.drew ?_ | refine Hb.ext (by assumption) ?_ | exact Hb.setSameL (by first | omega | (simp only [size_alloc, size_setB, size_drew]; omega)) | exact Hb.setSame (by assumption) | refine Hb.set (by first | omega | (simp only [size_alloc, size_setB, size_drew]; omega)) ?_ ))) rfl (by simp only [size_ic, Value.cells]; omega) (by first | rfl | (simp only [size_ic]; omega)) oneCell_ic ?_
    refine WO_nil ?_
    refine thn_normal ?_
    refine W_ret ?_
    refine bodyQ_cell1 Hvad.results157 rfl Hvad.isAgg224 Hvad.sizeOf224 rfl (Hb.h (by repeat (first | assumption | exact Hb.newY _ _ | refine Hb.alloc ?_ | refine Hb.drew ?_ | refine Hb.ext (by assumption) ?_ | exact Hb.setSameL (by first | omega | (simp only [size_alloc, size_setB, size_drew]; omega)) | exact Hb.setSame (by assumption) | refine Hb.set (by first | omega | (simp only [size_alloc, size_setB, size_drew]; omega)) ?_ ))) (by first | omega | assumption | rfl | decide | exact Nat.le_refl _ | (simp only [size_ic, Value.cells]; omega) | simp) ?_
    exact ⟨(by repeat (first | assumption | exact Ext.refl _ | refine Ext.alloc ?_ _ | refine Ext.drew ?_ | refine Ext.setB ?_ (by first | omega | (simp only [size_alloc, size_setB, size_drew]; omega)) _ | refine Ext.trans ?_ (by assumption))), R8, rfl, hr8, hR8⟩

set_option maxRecDepth 10000 in
set_option maxHeartbeats 4000000 in
theorem ntvCost_spec (kd : Int) (s : SV) (L : List Int) (w : World) (hs : SC w .u8 1 s L) (hL : By8 L) (hc : s.2.1 ≤ s.2.2) (hl : s.2.1 ≤ 1000000) (hk : kd = 4 ∨ kd = 5) : Ret Hvad.prog 92 #[.int .u8 kd, .slice s.1 s.2.1 s.2.2] w fun u w' => Ext w w' ∧ ∃ (c : Int) (ok : Bool), u = .tuple #[.int .u64 c, .bool ok] ∧ (0 ≤ c ∧ c ≤ 1000000) := by
  refine Ret_of_W Hvad.func92 rfl rfl ?_
  refine W_seq ?_
  refine W_region rfl ?_
  refine WO_p (PS_assign_int rfl) ?_
  refine WO_p (PS_assign_bool rfl) ?_
  refine WO_nil ?_
  refine thn_normal ?_
  refine W_seq ?_
  refine W_seq ?_
  refine W_region rfl ?_
  refine WO_p (PS_move_int rfl) ?_
  refine WO_nil ?_
  refine thn_normal ?_
  refine W_block ?_
  refine W_seq ?_
  refine W_region rfl ?_
  refine WO_p (PS_eql rfl rfl) ?_
  refine WO_p (PS_assign_bool rfl) ?_
  refine WO_nil ?_
  refine thn_normal ?_
  refine W_if rfl (fun hb2 => ?_) (fun hb2 => ?_)
  · have hb2p := hb2.h; try simp only [al_ete, al_dfn, Bool.not_eq_true', Bool.not_eq_false', al_ne, Bool.not_not, al_nn] at hb2p
    refine W_seq ?_
    refine W_region rfl ?_
    refine WO_p (PS_move_slice rfl) ?_
    refine WO_p (PS_lenS Hvad.runUnderlying32 rfl) ?_
    refine WO_p (PS_conv_u64n Hvad.runUnderlying3 Hvad.runUnderlying26 rfl (by omega) (by omega)) ?_
    refine WO_call Hvad.call70 (by rfl) (Ret.mono (words_spec _ _ ⟨by omega, by omega⟩) ?_)
    rintro _ _ ⟨rfl, rfl⟩
    refine WO_p (PS_mul_u64n rfl rfl (by omega) (by omega)) ?_
    refine WO_p (PS_add_u64n rfl rfl (by omega) (by omega)) ?_
    refine WO_p (PS_assign_int rfl) ?_
    refine WO_p (PS_assign_bool rfl) ?_
    refine WO_nil ?_
    refine thn_normal ?_
    refine W_ret ?_
    refine inBlk_ret ?_
    refine thn_ret ?_
    refine bodyQ_ret2 Hvad.results92 rfl rfl (.int _ _) (.bool _) rfl rfl ?_
    exact ⟨(by repeat (first | assumption | exact Ext.refl _ | refine Ext.alloc ?_ _ | refine Ext.drew ?_ | refine Ext.setB ?_ (by first | omega | (simp only [size_alloc, size_setB, size_drew]; omega)) _ | refine Ext.trans ?_ (by assumption))), _, _, rfl, by omega, by omega⟩
  · have hb2p := hb2.h; try simp only [al_ete, al_dfn, Bool.not_eq_true', Bool.not_eq_false', al_ne, Bool.not_not, al_nn] at hb2p
    refine W_seq ?_
    refine W_region rfl ?_
    refine WO_p (PS_eql rfl rfl) ?_
    refine WO_p (PS_assign_bool rfl) ?_
    refine WO_nil ?_
    refine thn_normal ?_
    refine W_if rfl (fun hb5 => ?_) (fun hb5 => ?_)
    · have hb5p := hb5.h; try simp only [al_ete, al_dfn, Bool.not_eq_true', Bool.not_eq_false', al_ne, Bool.not_not, al_nn] at hb5p
      refine W_seq ?_
      refine W_region rfl ?_
      refine WO_p (PS_move_slice rfl) ?_
      refine WO_call Hvad.call146 (by rfl) (Ret.mono (lengths_spec s L _ (SC.ext hs (by repeat (first | assumption | exact Ext.refl _ | refine Ext.alloc ?_ _ | refine Ext.drew ?_ | refine Ext.setB ?_ (by first | omega | (simp only [size_alloc, size_setB, size_drew]; omega)) _ | exact Ext.trans (by assumption) (by assumption) | refine Ext.trans ?_ (by assumption)))) hL hc hl) ?_)
      rintro _ w146_5 ⟨hE146_5, nb, ne, nm, ok, rfl, hnb, hne, hnm⟩
      have hz146_5 := hE146_5.1
      try simp only [size_alloc, size_setB, size_drew] at hz146_5
      refine WO_p (PS_move_tuple rfl) ?_
      refine WO_p (PS_extract_int rfl rfl) ?_
      refine WO_p (PS_extract_int rfl rfl) ?_
      refine WO_p (PS_extract_int rfl rfl) ?_
      refine WO_p (PS_extract_bool rfl rfl) ?_
      refine WO_p (PS_assign_int rfl) ?_
      refine WO_p (PS_assign_int rfl) ?_
      refine WO_p (PS_assign_int rfl) ?_
      refine WO_p (PS_assign_bool rfl) ?_
      refine WO_nil ?_
      refine thn_normal ?_
      refine W_seq ?_
      refine W_seq ?_
      refine W_region rfl ?_
      refine WO_p (PS_move_bool rfl) ?_
      refine WO_p (PS_not rfl) ?_
      refine WO_nil ?_
      refine thn_normal ?_
      refine W_if rfl (fun hb9 => ?_) (fun hb9 => ?_)
      · have hb9p := hb9.h; try simp only [al_ete, al_dfn, Bool.not_eq_true', Bool.not_eq_false', al_ne, Bool.not_not, al_nn] at hb9p
        refine W_seq ?_
        refine W_region rfl ?_
        refine WO_p (PS_assign_int rfl) ?_
        refine WO_p (PS_assign_bool rfl) ?_
        refine WO_nil ?_
        refine thn_normal ?_
        refine W_ret ?_
        refine thn_ret ?_
        refine inBlk_ret ?_
        refine thn_ret ?_
        refine bodyQ_ret2 Hvad.results92 rfl rfl (.int _ _) (.bool _) rfl rfl ?_
        exact ⟨(by repeat (first | assumption | exact Ext.refl _ | refine Ext.alloc ?_ _ | refine Ext.drew ?_ | refine Ext.setB ?_ (by first | omega | (simp only [size_alloc, size_setB, size_drew]; omega)) _ | refine Ext.trans ?_ (by assumption))), _, _, rfl, by omega, by omega⟩
      · have hb9p := hb9.h; try simp only [al_ete, al_dfn, Bool.not_eq_true', Bool.not_eq_false', al_ne, Bool.not_not, al_nn] at hb9p
        refine W_skip ?_
        refine thn_normal ?_
        refine W_seq ?_
        refine W_region rfl ?_
        refine WO_p (PS_move_int rfl) ?_
        refine WO_p (PS_move_int rfl) ?_
        refine WO_p (PS_max rfl rfl) ?_
        rw [maxIf]
        refine WO_p (PS_conv_u64n Hvad.runUnderlying3 Hvad.runUnderlying26 rfl (by omega) (by omega)) ?_
        refine WO_p (PS_add_u64n rfl rfl (by omega) (by omega)) ?_
        refine WO_p (PS_quo_u64 rfl rfl (by omega) (by omega) (by omega)) ?_
        obtain ⟨wd, hwd, hwd9⟩ : ∃ wd : Int, (max (nb : Int) nm + 7) / 8 = wd ∧ (0 ≤ wd ∧ wd ≤ 9) := ⟨_, rfl, by omega⟩
        rw [hwd]
        refine WO_p (PS_assign_int rfl) ?_
        refine WO_nil ?_
        refine thn_normal ?_
        refine W_seq ?_
        refine W_region rfl ?_
        refine WO_allocG Hvad.zeroValue27 ?_
        intro b11 v11 hg11 hE11 hH11 hl11
        try simp only [size_alloc, size_setB, size_drew] at hg11
        have hzz11 := hE11.1
        try simp only [size_alloc, size_setB, size_drew] at hzz11
        replace hH11 : Hb v11 b11 (.cells (ic .u8 (List.replicate 32 0)) 27 (0, 0)) := hH11
        refine WO_nil ?_
        refine thn_normal ?_
        refine W_seq ?_
        refine W_region rfl ?_
        refine WO_p (PS_slA Hvad.runUnderlying27 Hvad.sizeOf5 rfl (by omega)) ?_
        refine WO_p (PS_move_slice rfl) ?_
        refine WO_p (PS_move_int rfl) ?_
        refine WO_p (PS_add_i64n rfl rfl (by omega) (by omega)) ?_
        rw [show (96 : Int) + nb = ((96 + nb : Nat) : Int) by omega]
        refine WO_p (PS_move_int rfl) ?_
        refine WO_p (PS_min rfl rfl) ?_
        rw [minIf, show min (ne : Int) 32 = ((min (α := Nat) ne 32 : Nat) : Int) by omega]
        refine WO_call Hvad.call147 (by rfl) (Ret.mono (part_spec b11 32 27 (List.replicate 32 0) s L (96 + nb) (min (α := Nat) ne 32) _ (Hb.mk (Hb.h (by repeat (first | assumption | exact Hb.newY _ _ | refine Hb.alloc ?_ | refine Hb.drew ?_ | refine Hb.ext (by assumption) ?_ | exact Hb.setSameL (by first | omega | (simp only [size_alloc, size_setB, size_drew]; omega)) | exact Hb.setSame (by assumption) | refine Hb.set (by first | omega | (simp only [size_alloc, size_setB, size_drew]; omega)) ?_ )))) (by simp) (by omega) (SC.ext hs (by repeat (first | assumption | exact Ext.refl _ | refine Ext.alloc ?_ _ | refine Ext.drew ?_ | refine Ext.setB ?_ (by first | omega | (simp only [size_alloc, size_setB, size_drew]; omega)) _ | exact Ext.trans (by assumption) (by assumption) | refine Ext.trans ?_ (by assumption)))) hL hc hl (by omega) (by omega)) ?_)
        rintro _ w6 ⟨D6, hT6⟩
        have hz6 := hT6.keep.sz
        have hE6' : Ext w w6 := hT6.ext (by repeat (first | assumption | exact Ext.refl _ | refine Ext.alloc ?_ _ | refine Ext.drew ?_ | refine Ext.setB ?_ (by first | omega | (simp only [size_alloc, size_setB, size_drew]; omega)) _ | exact Ext.trans (by assumption) (by assumption) | refine Ext.trans ?_ (by assumption))) (by omega)
        have hD6 : By D6 32 := ⟨by rw [hT6.len]; simp, hT6.ty (by_zero 32)⟩
        have hD6l := hD6.1
        have hb116 := hT6.hb
        have hfw := fromB_wd hD6.2
        have hfwl := hfw.1
        have hxw : Xt (ic .u8 D6) 0 (0 + 32) (ic .u8 D6) := Xt.whole rfl (by rw [size_ic]; omega)
        refine WO_nil ?_
        refine thn_normal ?_
        refine W_seq ?_
        refine W_region rfl ?_
        refine WO_loadA _ Hvad.isAgg27 Hvad.sizeOf27 rfl (Hb.h (by repeat (first | assumption | exact Hb.newY _ _ | refine Hb.alloc ?_ | refine Hb.drew ?_ | refine Hb.ext (by assumption) ?_ | exact Hb.setSameL (by first | omega | (simp only [size_alloc, size_setB, size_drew]; omega)) | exact Hb.setSame (by assumption) | refine Hb.set (by first | omega | (simp only [size_alloc, size_setB, size_drew]; omega)) ?_ ))) (by first | omega | assumption | rfl | decide | exact Nat.le_refl _ | (simp only [size_ic, Value.cells]; omega) | simp) (Xt.h (by first | assumption | exact Xt.whole rfl rfl | exact Xt.whole rfl (by simp only [size_ic, Value.cells]; omega) | exact ⟨rfl⟩)) ?_
        refine WO_call Hvad.call39 (by rfl) (Ret.mono (fromBytes_spec _ _ hD6) ?_)
        rintro _ w39_10 ⟨rfl, hE39_10⟩
        have hz39_10 := hE39_10.1
        try simp only [size_alloc, size_setB, size_drew] at hz39_10
        refine WO_allocG Hvad.zeroValue59 ?_
        intro b12 v12 hg12 hE12 hH12 hl12
        try simp only [size_alloc, size_setB, size_drew] at hg12
        have hzz12 := hE12.1
        try simp only [size_alloc, size_setB, size_drew] at hzz12
        replace hH12 : Hb v12 b12 (.cells (ic .u64 [0, 0, 0, 0]) 59 (0, 0)) := hH12
        first | refine WO_storeW Hvad.sizeOf59 rfl (v := .agg _) rfl (Hb.h (by repeat (first | assumption | exact Hb.newY _ _ | refine Hb.alloc ?_ | refine Hb.drew ?_ | refine Hb.ext (by assumption) ?_ | exact Hb.setSameL (by first | omega | (simp only [size_alloc, size_setB, size_drew]; omega)) | exact Hb.setSame (by assumption) | refine Hb.set (by first | omega | (simp only [size_alloc, size_setB, size_drew]; omega)) ?_ ))) rfl (by first | omega | assumption | rfl | decide | exact Nat.le_refl _ | (simp only [size_ic, Value.cells]; omega) | simp) (by first | omega | assumption | rfl | decide | exact Nat.le_refl _ | (simp only [size_ic, Value.cells]; omega) | simp) (by first | exact oneCell_ic | assumption) ?_ | refine WO_store Hvad.sizeOf59 rfl (v := .agg _) rfl (Hb.h (by repeat (first | assumption | exact Hb.newY _ _ | refine Hb.alloc ?_ | refine Hb.drew ?_ | refine Hb.ext (by assumption) ?_ | exact Hb.setSameL (by first | omega | (simp only [size_alloc, size_setB, size_drew]; omega)) | exact Hb.setSame (by assumption) | refine Hb.set (by first | omega | (simp only [size_alloc, size_setB, size_drew]; omega)) ?_ ))) (by first | omega | assumption | rfl | decide | exact Nat.le_refl _ | (simp only [size_ic, Value.cells]; omega) | simp) (by first | omega | assumption | rfl | decide | exact Nat.le_refl _ | (simp only [size_ic, Value.cells]; omega) | simp) (by first | exact oneCell_ic | assumption) ?_
        refine WO_nil ?_
        refine thn_normal ?_
        refine W_seq ?_
        refine W_region rfl ?_
        refine WO_p (PS_assign_int rfl) ?_
        refine WO_nil ?_
        refine thn_normal ?_
        refine W_seqJ (fun ρ w' => ∃ tn : Int, Fr [(7, .int .i64 ne), (10, .int .u64 wd), (13, .int .u64 tn)] ρ ∧ Ext w w' ∧ 0 ≤ tn ∧ tn ≤ 256) ?_ ?_
        · skip
          refine W_seq ?_
          refine W_region rfl ?_
          refine WO_loadA _ Hvad.isAgg59 Hvad.sizeOf59 rfl (Hb.h (by repeat (first | assumption | exact Hb.newY _ _ | refine Hb.alloc ?_ | refine Hb.drew ?_ | refine Hb.ext (by assumption) ?_ | exact Hb.setSameL (by first | omega | (simp only [size_alloc, size_setB, size_drew]; omega)) | exact Hb.setSame (by assumption) | refine Hb.set (by first | omega | (simp only [size_alloc, size_setB, size_drew]; omega)) ?_ ))) (by first | omega | assumption | rfl | decide | exact Nat.le_refl _ | (simp only [size_ic, Value.cells]; omega) | simp) (Xt.h (by first | assumption | exact Xt.whole rfl rfl | exact Xt.whole rfl (by simp only [size_ic, Value.cells]; omega) | exact ⟨rfl⟩)) ?_
          refine WO_call Hvad.call148 (by rfl) (Ret.mono (limbs_spec _ _ hfw) ?_)
          rintro _ w148_11 ⟨hE148_11, n, rfl, hn4, hnz⟩
          have hz148_11 := hE148_11.1
          try simp only [size_alloc, size_setB, size_drew] at hz148_11
          refine WO_p (PS_assign_int rfl) ?_
          refine WO_nil ?_
          refine thn_normal ?_
          refine W_seq ?_
          refine W_region rfl ?_
          refine WO_p (PS_move_int rfl) ?_
          refine WO_p (PS_gtr rfl rfl) ?_
          refine WO_nil ?_
          refine thn_normal ?_
          refine W_if rfl (fun hb14 => ?_) (fun hb14 => ?_)
          · have hb14p := hb14.h; try simp only [al_ete, al_dfn, Bool.not_eq_true', Bool.not_eq_false', al_ne, Bool.not_not, al_nn] at hb14p
            have hceN : Ce (ic .u64 (fromB D6)) (0 + ((n:Int) - 1).toNat * 1) (.int .u64 ((fromB D6).getD (n - 1) 0)) := by rw [show ((n:Int) - 1).toNat = n - 1 by omega]; exact ce_ic (by omega)
            refine W_region rfl ?_
            refine WO_p (PS_move_int rfl) ?_
            refine WO_p (PS_sub_u8n rfl rfl (by omega) (by omega)) ?_
            refine WO_p (PS_conv_u64n Hvad.runUnderlying5 Hvad.runUnderlying26 rfl (by omega) (by omega)) ?_
            refine WO_p (PS_mul_u64n rfl rfl (by omega) (by omega)) ?_
            refine WO_p (PS_move_int rfl) ?_
            refine WO_p (PS_sub_u8n rfl rfl (by omega) (by omega)) ?_
            refine WO_p (PS_indexA Hvad.runUnderlying59 Hvad.sizeOf26 rfl rfl (by omega) (by omega)) ?_
            refine WO_load (.int _ _) Hvad.isAgg26 rfl (Hb.h (by repeat (first | assumption | exact Hb.newY _ _ | refine Hb.alloc ?_ | refine Hb.drew ?_ | refine Hb.ext (by assumption) ?_ | exact Hb.setSameL (by first | omega | (simp only [size_alloc, size_setB, size_drew]; omega)) | exact Hb.setSame (by assumption) | refine Hb.set (by first | omega | (simp only [size_alloc, size_setB, size_drew]; omega)) ?_ ))) (Ce.h (by first | assumption | exact ⟨rfl⟩)) ?_
            refine WO_call Hvad.call149 (by rfl) (Ret.mono (len64_spec _ _ (hfw.ul.get (n - 1))) ?_)
            rintro _ w149_14 ⟨hw149_14, ln, rfl, hln, hLn⟩
            rw [hw149_14]
            clear hw149_14
            have hln1 : 1 ≤ ln := ln_pos hLn (hfw.ul.get (n - 1)).1 (hnz (by omega))
            refine WO_p (PS_conv_u64n Hvad.runUnderlying3 Hvad.runUnderlying26 rfl (by omega) (by omega)) ?_
            refine WO_p (PS_add_u64n rfl rfl (by omega) (by omega)) ?_
            refine WO_p (PS_sub_u64n rfl rfl (by omega) (by omega)) ?_
            refine WO_p (PS_assign_int rfl) ?_
            refine WO_nil ?_
            refine thn_normal ?_
            exact ⟨_, ⟨rfl, rfl, rfl, trivial⟩, (by repeat (first | assumption | exact Ext.refl _ | refine Ext.alloc ?_ _ | refine Ext.drew ?_ | refine Ext.setB ?_ (by first | omega | (simp only [size_alloc, size_setB, size_drew]; omega)) _ | exact Ext.trans (by assumption) (by assumption) | refine Ext.trans ?_ (by assumption))), by omega, by omega⟩
          · have hb14p := hb14.h; try simp only [al_ete, al_dfn, Bool.not_eq_true', Bool.not_eq_false', al_ne, Bool.not_not, al_nn] at hb14p
            refine W_skip ?_
            refine thn_normal ?_
            exact ⟨0, ⟨rfl, rfl, rfl, trivial⟩, (by repeat (first | assumption | exact Ext.refl _ | refine Ext.alloc ?_ _ | refine Ext.drew ?_ | refine Ext.setB ?_ (by first | omega | (simp only [size_alloc, size_setB, size_drew]; omega)) _ | exact Ext.trans (by assumption) (by assumption) | refine Ext.trans ?_ (by assumption))), by omega, by omega⟩
        · rintro ρ w16 ⟨tn, hFr16, hE16, ht0, ht1⟩
          refine W_env _ hFr16 ?_
          refine W_seqJ (fun ρ w' => ∃ tn : Int, Fr [(10, .int .u64 wd), (13, .int .u64 tn)] ρ ∧ Ext w w' ∧ 0 ≤ tn ∧ tn ≤ 512) ?_ ?_
          · skip
            refine W_seq ?_
            refine W_region rfl ?_
            refine WO_p (PS_move_int rfl) ?_
            refine WO_p (PS_gtr rfl rfl) ?_
            refine WO_nil ?_
            refine thn_normal ?_
            refine W_if rfl (fun hb17 => ?_) (fun hb17 => ?_)
            · have hb17p := hb17.h; try simp only [al_ete, al_dfn, Bool.not_eq_true', Bool.not_eq_false', al_ne, Bool.not_not, al_nn] at hb17p
              refine W_region rfl ?_
              refine WO_p (PS_move_int rfl) ?_
              refine WO_p (PS_move_int rfl) ?_
              refine WO_p (PS_sub_i64n rfl rfl (by omega) (by omega)) ?_
              refine WO_p (PS_conv_u64n Hvad.runUnderlying3 Hvad.runUnderlying26 rfl (by omega) (by omega)) ?_
              refine WO_p (PS_mul_u64n rfl rfl (by omega) (by omega)) ?_
              refine WO_p (PS_add_u64n rfl rfl (by omega) (by omega)) ?_
              refine WO_p (PS_assign_int rfl) ?_
              refine WO_nil ?_
              refine thn_normal ?_
              exact ⟨_, ⟨rfl, rfl, trivial⟩, (by repeat (first | assumption | exact Ext.refl _ | refine Ext.alloc ?_ _ | refine Ext.drew ?_ | refine Ext.setB ?_ (by first | omega | (simp only [size_alloc, size_setB, size_drew]; omega)) _ | exact Ext.trans (by assumption) (by assumption) | refine Ext.trans ?_ (by assumption))), by omega, by omega⟩
            · have hb17p := hb17.h; try simp only [al_ete, al_dfn, Bool.not_eq_true', Bool.not_eq_false', al_ne, Bool.not_not, al_nn] at hb17p
              refine W_skip ?_
              refine thn_normal ?_
              exact ⟨tn, ⟨rfl, rfl, trivial⟩, (by repeat (first | assumption | exact Ext.refl _ | refine Ext.alloc ?_ _ | refine Ext.drew ?_ | refine Ext.setB ?_ (by first | omega | (simp only [size_alloc, size_setB, size_drew]; omega)) _ | exact Ext.trans (by assumption) (by assumption) | refine Ext.trans ?_ (by assumption))), by omega, by omega⟩
          · rintro ρ w18 ⟨tn, hFr18, hE18, ht0, ht1⟩
            refine W_env _ hFr18 ?_
            have hww : 0 ≤ wd * wd ∧ wd * wd ≤ 81 := ⟨Int.mul_nonneg (by omega) (by omega), Int.mul_le_mul (by omega : wd ≤ 9) (by omega : wd ≤ 9) (by omega) (by decide)⟩
            have hmt : 0 ≤ wd * wd * max tn 1 ∧ wd * wd * max tn 1 ≤ 81 * 512 := ⟨Int.mul_nonneg hww.1 (by omega), Int.mul_le_mul hww.2 (by omega) (by omega) (by omega)⟩
            refine W_seq ?_
            refine W_region rfl ?_
            refine WO_p (PS_move_int rfl) ?_
            refine WO_p (PS_move_int rfl) ?_
            refine WO_p (PS_mul_u64n rfl rfl (by omega) (by omega)) ?_
            refine WO_p (PS_move_int rfl) ?_
            refine WO_p (PS_max rfl rfl) ?_
            rw [maxIf]
            refine WO_p (PS_mul_u64n rfl rfl (by omega) (by omega)) ?_
            refine WO_p (PS_quo_u64 rfl rfl (by omega) (by omega) (by omega)) ?_
            refine WO_p (PS_max rfl rfl) ?_
            rw [maxIf]
            refine WO_p (PS_assign_int rfl) ?_
            refine WO_p (PS_assign_bool rfl) ?_
            refine WO_nil ?_
            refine thn_normal ?_
            refine W_ret ?_
            refine inBlk_ret ?_
            refine thn_ret ?_
            refine bodyQ_ret2 Hvad.results92 rfl rfl (.int _ _) (.bool _) rfl rfl ?_
            exact ⟨(by repeat (first | assumption | exact Ext.refl _ | refine Ext.alloc ?_ _ | refine Ext.drew ?_ | refine Ext.setB ?_ (by first | omega | (simp only [size_alloc, size_setB, size_drew]; omega)) _ | refine Ext.trans ?_ (by assumption))), _, _, rfl, by omega, by omega⟩
    · have hb5p := hb5.h; try simp only [al_ete, al_dfn, Bool.not_eq_true', Bool.not_eq_false', al_ne, Bool.not_not, al_nn] at hb5p
      (exfalso; omega) --END

set_option maxRecDepth 10000 in
set_option maxHeartbeats 4000000 in
theorem ntvRun_spec (kd : Int) (s : SV) (L : List Int) (w : World) (hs : SC w .u8 1 s L) (hL : By8 L) (hc : s.2.1 ≤ s.2.2) (hl : s.2.1 ≤ 1000000) (hk : kd = 4 ∨ kd = 5) : Ret Hvad.prog 95 #[.int .u8 kd, .slice s.1 s.2.1 s.2.2] w fun u w' => Ext w w' ∧ ∃ s' L', u = .slice s'.1 s'.2.1 s'.2.2 ∧ NewB w w' s' L' ∧ By8 L' ∧ (s'.2.1 ≤ s.2.1 ∨ s'.2.1 ≤ 64) := by
  refine Ret_of_W Hvad.func95 rfl rfl ?_
  refine W_seq ?_
  refine W_region rfl ?_
  refine WO_p (PS_assign_slice rfl) ?_
  refine WO_nil ?_
  refine thn_normal ?_
  refine W_seq ?_
  refine W_seq ?_
  refine W_region rfl ?_
  refine WO_p (PS_move_int rfl) ?_
  refine WO_p (PS_eql rfl rfl) ?_
  refine WO_nil ?_
  refine thn_normal ?_
  refine W_if rfl (fun hb2 => ?_) (fun hb2 => ?_)
  · have hb2p := hb2.h; try simp only [al_ete, al_dfn, Bool.not_eq_true', Bool.not_eq_false', al_ne, Bool.not_not, al_nn] at hb2p
    refine W_seq ?_
    refine W_region rfl ?_
    refine WO_p (PS_move_slice rfl) ?_
    refine WO_call Hvad.call156 (by rfl) (Ret.mono (copiedM_spec s L _ (SC.ext hs (by repeat (first | assumption | exact Ext.refl _ | refine Ext.alloc ?_ _ | refine Ext.drew ?_ | refine Ext.setB ?_ (by first | omega | (simp only [size_alloc, size_setB, size_drew]; omega)) _ | exact Ext.trans (by assumption) (by assumption) | refine Ext.trans ?_ (by assumption)))) hl) ?_)
    rintro _ w156_2 ⟨hE156_2, s2, rfl, hN2⟩
    have hz156_2 := hE156_2.1
    try simp only [size_alloc, size_setB, size_drew] at hz156_2
    have hl2 := hN2.len
    have hsl := hs.1
    simp only [Nat.mul_one] at hsl
    refine WO_p (PS_assign_slice rfl) ?_
    refine WO_nil ?_
    refine thn_normal ?_
    refine W_ret ?_
    refine thn_ret ?_
    refine bodyQ_ret1 Hvad.results95 rfl (.slice _ _ _) rfl ?_
    exact ⟨(by repeat (first | assumption | exact Ext.refl _ | refine Ext.alloc ?_ _ | refine Ext.drew ?_ | refine Ext.setB ?_ (by first | omega | (simp only [size_alloc, size_setB, size_drew]; omega)) _ | exact Ext.trans (by assumption) (by assumption) | refine Ext.trans ?_ (by assumption))), s2, L, rfl, hN2.mono (by first | omega | exact Nat.le_refl _), hL, Or.inl (by omega)⟩
  · have hb2p := hb2.h; try simp only [al_ete, al_dfn, Bool.not_eq_true', Bool.not_eq_false', al_ne, Bool.not_not, al_nn] at hb2p
    refine W_skip ?_
    refine thn_normal ?_
    refine W_seq ?_
    refine W_region rfl ?_
    refine WO_p (PS_move_slice rfl) ?_
    refine WO_call Hvad.call146 (by rfl) (Ret.mono (lengths_spec s L _ (SC.ext hs (by repeat (first | assumption | exact Ext.refl _ | refine Ext.alloc ?_ _ | refine Ext.drew ?_ | refine Ext.setB ?_ (by first | omega | (simp only [size_alloc, size_setB, size_drew]; omega)) _ | exact Ext.trans (by assumption) (by assumption) | refine Ext.trans ?_ (by assumption)))) hL hc hl) ?_)
    rintro _ w146_3 ⟨hE146_3, nb, ne, nm, ok, rfl, hnb, hne, hnm⟩
    have hz146_3 := hE146_3.1
    try simp only [size_alloc, size_setB, size_drew] at hz146_3
    refine WO_p (PS_move_tuple rfl) ?_
    refine WO_p (PS_extract_int rfl rfl) ?_
    refine WO_p (PS_extract_int rfl rfl) ?_
    refine WO_p (PS_extract_int rfl rfl) ?_
    refine WO_p (PS_extract_bool rfl rfl) ?_
    refine WO_p (PS_assign_int rfl) ?_
    refine WO_p (PS_assign_int rfl) ?_
    refine WO_p (PS_assign_int rfl) ?_
    refine WO_p (PS_assign_bool rfl) ?_
    refine WO_nil ?_
    refine thn_normal ?_
    refine W_seq ?_
    refine W_seq ?_
    refine W_region rfl ?_
    refine WO_p (PS_move_int rfl) ?_
    refine WO_p (PS_neq rfl rfl) ?_
    refine WO_p (PS_move_bool rfl) ?_
    refine WO_if (t := 29) rfl (fun hb7 => ?_) (fun hb7 => ?_)
    · have hb7p := hb7.h; try simp only [al_ete, al_dfn, Bool.not_eq_true', Bool.not_eq_false', al_ne, Bool.not_not, al_nn] at hb7p
      refine WO_guardF rfl rfl hb7.h ?_
      refine WO_guardF rfl rfl hb7.h ?_
      refine WO_p (PS_pickT rfl hb7.h rfl) ?_
      refine WO_p (PS_move_bool rfl) ?_
      refine WO_guardF rfl rfl rfl ?_
      refine WO_guardF rfl rfl rfl ?_
      refine WO_p (PS_pickT rfl rfl rfl) ?_
      refine WO_nil ?_
      refine thn_normal ?_
      refine W_condT rfl rfl ?_
      refine W_seq ?_
      refine W_region rfl ?_
      refine WO_p (PS_assign_slice rfl) ?_
      refine WO_nil ?_
      refine thn_normal ?_
      refine W_ret ?_
      refine thn_ret ?_
      refine bodyQ_ret1 Hvad.results95 rfl (.slice _ _ _) rfl ?_
      exact ⟨(by repeat (first | assumption | exact Ext.refl _ | refine Ext.alloc ?_ _ | refine Ext.drew ?_ | refine Ext.setB ?_ (by first | omega | (simp only [size_alloc, size_setB, size_drew]; omega)) _ | exact Ext.trans (by assumption) (by assumption) | refine Ext.trans ?_ (by assumption))), (none, 0, 0), [], rfl, Or.inl ⟨rfl, rfl⟩, (fun z hz => by cases hz), Or.inr (by show (0 : Nat) ≤ 64; decide)⟩
    · have hb7p := hb7.h; try simp only [al_ete, al_dfn, Bool.not_eq_true', Bool.not_eq_false', al_ne, Bool.not_not, al_nn] at hb7p
      refine WO_guardT rfl rfl hb7.h ?_
      refine WO_p (PS_move_bool rfl) ?_
      refine WO_guardT rfl rfl hb7.h ?_
      refine WO_p (PS_not rfl) ?_
      refine WO_p (PS_pickF rfl hb7.h rfl) ?_
      refine WO_p (PS_move_bool rfl) ?_
      refine WO_if (t := 33) rfl (fun hb9 => ?_) (fun hb9 => ?_)
      · have hb9p := hb9.h; try simp only [al_ete, al_dfn, Bool.not_eq_true', Bool.not_eq_false', al_ne, Bool.not_not, al_nn] at hb9p
        refine WO_guardF rfl rfl hb9.h ?_
        refine WO_guardF rfl rfl hb9.h ?_
        refine WO_p (PS_pickT rfl hb9.h rfl) ?_
        refine WO_nil ?_
        refine thn_normal ?_
        refine W_condT rfl rfl ?_
        refine W_seq ?_
        refine W_region rfl ?_
        refine WO_p (PS_assign_slice rfl) ?_
        refine WO_nil ?_
        refine thn_normal ?_
        refine W_ret ?_
        refine thn_ret ?_
        refine bodyQ_ret1 Hvad.results95 rfl (.slice _ _ _) rfl ?_
        exact ⟨(by repeat (first | assumption | exact Ext.refl _ | refine Ext.alloc ?_ _ | refine Ext.drew ?_ | refine Ext.setB ?_ (by first | omega | (simp only [size_alloc, size_setB, size_drew]; omega)) _ | exact Ext.trans (by assumption) (by assumption) | refine Ext.trans ?_ (by assumption))), (none, 0, 0), [], rfl, Or.inl ⟨rfl, rfl⟩, (fun z hz => by cases hz), Or.inr (by show (0 : Nat) ≤ 64; decide)⟩
      · have hb9p := hb9.h; try simp only [al_ete, al_dfn, Bool.not_eq_true', Bool.not_eq_false', al_ne, Bool.not_not, al_nn] at hb9p
        refine WO_guardT rfl rfl hb9.h ?_
        refine WO_p (PS_move_int rfl) ?_
        refine WO_guardT rfl rfl hb9.h ?_
        refine WO_p (PS_eql rfl rfl) ?_
        refine WO_p (PS_pickF rfl hb9.h rfl) ?_
        refine WO_nil ?_
        refine thn_normal ?_
        refine W_if rfl (fun hb11 => ?_) (fun hb11 => ?_)
        · have hb11p := hb11.h; try simp only [al_ete, al_dfn, Bool.not_eq_true', Bool.not_eq_false', al_ne, Bool.not_not, al_nn] at hb11p
          refine W_seq ?_
          refine W_region rfl ?_
          refine WO_p (PS_assign_slice rfl) ?_
          refine WO_nil ?_
          refine thn_normal ?_
          refine W_ret ?_
          refine thn_ret ?_
          refine bodyQ_ret1 Hvad.results95 rfl (.slice _ _ _) rfl ?_
          exact ⟨(by repeat (first | assumption | exact Ext.refl _ | refine Ext.alloc ?_ _ | refine Ext.drew ?_ | refine Ext.setB ?_ (by first | omega | (simp only [size_alloc, size_setB, size_drew]; omega)) _ | exact Ext.trans (by assumption) (by assumption) | refine Ext.trans ?_ (by assumption))), (none, 0, 0), [], rfl, Or.inl ⟨rfl, rfl⟩, (fun z hz => by cases hz), Or.inr (by show (0 : Nat) ≤ 64; decide)⟩
        · have hb11p := hb11.h; try simp only [al_ete, al_dfn, Bool.not_eq_true', Bool.not_eq_false', al_ne, Bool.not_not, al_nn] at hb11p
          have hnm0 : ¬ (nm : Int) = 0 := by simpa using hb11p
          refine W_skip ?_
          refine thn_normal ?_
          refine W_seq ?_
          refine W_region rfl ?_
          refine WO_p (PS_move_slice rfl) ?_
          refine WO_p (PS_move_int rfl) ?_
          refine WO_call Hvad.call157 (by rfl) (Ret.mono (operand_spec s L (96) nb _ (SC.ext hs (by repeat (first | assumption | exact Ext.refl _ | refine Ext.alloc ?_ _ | refine Ext.drew ?_ | refine Ext.setB ?_ (by first | omega | (simp only [size_alloc, size_setB, size_drew]; omega)) _ | exact Ext.trans (by assumption) (by assumption) | refine Ext.trans ?_ (by assumption)))) hL hc hl (by omega) (by omega)) ?_)
          rintro _ w157_11 ⟨hE157_11, R6, rfl, hR6, hRL6⟩
          have hz157_11 := hE157_11.1
          try simp only [size_alloc, size_setB, size_drew] at hz157_11
          have hRs6 : (Value.agg (ic .u64 R6)).cells.size = 8 := by simp only [Value.cells, size_ic]; exact hR6
          refine WO_allocG Hvad.zeroValue224 ?_
          intro b9 v9 hg9 hE9 hH9 hl9
          try simp only [size_alloc, size_setB, size_drew] at hg9
          have hzz9 := hE9.1
          try simp only [size_alloc, size_setB, size_drew] at hzz9
          replace hH9 : Hb v9 b9 (.cells (ic .u64 (List.replicate 8 0)) 224 (0, 0)) := hH9
          refine WO_storeW Hvad.sizeOf224 rfl (v := .agg _) rfl (Hb.h (by repeat (first | assumption | exact Hb.newY _ _ | refine Hb.alloc ?_ | refine Hb.drew ?_ | refine Hb.ext (by assumption) ?_ | exact Hb.setSameL (by first | omega | (simp only [size_alloc, size_setB, size_drew]; omega)) | exact Hb.setSame (by assumption) | refine Hb.set (by first | omega | (simp only [size_alloc, size_setB, size_drew]; omega)) ?_ ))) rfl hRs6 (by first | rfl | (simp only [size_ic]; omega)) oneCell_ic ?_
          change WO _ _ _ _ _ (setB _ _ (.cells (ic .u64 R6) 224 (0, 0)))
          refine WO_nil ?_
          refine thn_normal ?_
          refine W_seq ?_
          refine W_region rfl ?_
          refine WO_p (PS_move_slice rfl) ?_
          refine WO_p (PS_move_int rfl) ?_
          refine WO_p (PS_add_i64n rfl rfl (by omega) (by omega)) ?_
          rw [show (96 : Int) + nb = ((96 + nb : Nat) : Int) by omega]
          refine WO_p (PS_move_int rfl) ?_
          refine WO_call Hvad.call157 (by rfl) (Ret.mono (operand_spec s L (96 + nb) ne _ (SC.ext hs (by repeat (first | assumption | exact Ext.refl _ | refine Ext.alloc ?_ _ | refine Ext.drew ?_ | refine Ext.setB ?_ (by first | omega | (simp only [size_alloc, size_setB, size_drew]; omega)) _ | exact Ext.trans (by assumption) (by assumption) | refine Ext.trans ?_ (by assumption)))) hL hc hl (by omega) (by omega)) ?_)
          rintro _ w157_12 ⟨hE157_12, R7, rfl, hR7, hRL7⟩
          have hz157_12 := hE157_12.1
          try simp only [size_alloc, size_setB, size_drew] at hz157_12
          have hRs7 : (Value.agg (ic .u64 R7)).cells.size = 8 := by simp only [Value.cells, size_ic]; exact hR7
          refine WO_allocG Hvad.zeroValue224 ?_
          intro b10 v10 hg10 hE10 hH10 hl10
          try simp only [size_alloc, size_setB, size_drew] at hg10
          have hzz10 := hE10.1
          try simp only [size_alloc, size_setB, size_drew] at hzz10
          replace hH10 : Hb v10 b10 (.cells (ic .u64 (List.replicate 8 0)) 224 (0, 0)) := hH10
          refine WO_storeW Hvad.sizeOf224 rfl (v := .agg _) rfl (Hb.h (by repeat (first | assumption | exact Hb.newY _ _ | refine Hb.alloc ?_ | refine Hb.drew ?_ | refine Hb.ext (by assumption) ?_ | exact Hb.setSameL (by first | omega | (simp only [size_alloc, size_setB, size_drew]; omega)) | exact Hb.setSame (by assumption) | refine Hb.set (by first | omega | (simp only [size_alloc, size_setB, size_drew]; omega)) ?_ ))) rfl hRs7 (by first | rfl | (simp only [size_ic]; omega)) oneCell_ic ?_
          change WO _ _ _ _ _ (setB _ _ (.cells (ic .u64 R7) 224 (0, 0)))
          refine WO_nil ?_
          refine thn_normal ?_
          refine W_seq ?_
          refine W_region rfl ?_
          refine WO_p (PS_move_slice rfl) ?_
          refine WO_p (PS_move_int rfl) ?_
          refine WO_p (PS_add_i64n rfl rfl (by omega) (by omega)) ?_
          refine WO_p (PS_move_int rfl) ?_
          refine WO_p (PS_add_i64n rfl rfl (by omega) (by omega)) ?_
          rw [show (96 : Int) + nb + ne = ((96 + nb + ne : Nat) : Int) by omega]
          refine WO_p (PS_move_int rfl) ?_
          refine WO_call Hvad.call157 (by rfl) (Ret.mono (operand_spec s L (96 + nb + ne) nm _ (SC.ext hs (by repeat (first | assumption | exact Ext.refl _ | refine Ext.alloc ?_ _ | refine Ext.drew ?_ | refine Ext.setB ?_ (by first | omega | (simp only [size_alloc, size_setB, size_drew]; omega)) _ | exact Ext.trans (by assumption) (by assumption) | refine Ext.trans ?_ (by assumption)))) hL hc hl (by omega) (by omega)) ?_)
          rintro _ w157_13 ⟨hE157_13, R8, rfl, hR8, hRL8⟩
          have hz157_13 := hE157_13.1
          try simp only [size_alloc, size_setB, size_drew] at hz157_13
          have hRs8 : (Value.agg (ic .u64 R8)).cells.size = 8 := by simp only [Value.cells, size_ic]; exact hR8
          refine WO_allocG Hvad.zeroValue224 ?_
          intro b11 v11 hg11 hE11 hH11 hl11
          try simp only [size_alloc, size_setB, size_drew] at hg11
          have hzz11 := hE11.1
          try simp only [size_alloc, size_setB, size_drew] at hzz11
          replace hH11 : Hb v11 b11 (.cells (ic .u64 (List.replicate 8 0)) 224 (0, 0)) := hH11
          refine WO_storeW Hvad.sizeOf224 rfl (v := .agg _) rfl (Hb.h (by repeat (first | assumption | exact Hb.newY _ _ | refine Hb.alloc ?_ | refine Hb.drew ?_ | refine Hb.ext (by assumption) ?_ | exact Hb.setSameL (by first | omega | (simp only [size_alloc, size_setB, size_drew]; omega)) | exact Hb.setSame (by assumption) | refine Hb.set (by first | omega | (simp only [size_alloc, size_setB, size_drew]; omega)) ?_ ))) rfl hRs8 (by first | rfl | (simp only [size_ic]; omega)) oneCell_ic ?_
          change WO _ _ _ _ _ (setB _ _ (.cells (ic .u64 R8) 224 (0, 0)))
          refine WO_nil ?_
          refine thn_normal ?_
          refine W_seq ?_
          refine W_region rfl ?_
          refine WO_call Hvad.call158 (by rfl) (Ret.mono (modExp_spec b9 b10 b11 224 224 224 R6 R7 R8 _ (Hb.mk (Hb.h (by repeat (first | assumption | exact Hb.newY _ _ | refine Hb.alloc ?_ | refine Hb.drew ?_ | refine Hb.ext (by assumption) ?_ | exact Hb.setSameL (by first | omega | (simp only [size_alloc, size_setB, size_drew]; omega)) | exact Hb.setSame (by assumption) | refine Hb.set (by first | omega | (simp only [size_alloc, size_setB, size_drew]; omega)) ?_ )))) (Hb.mk (Hb.h (by repeat (first | assumption | exact Hb.newY _ _ | refine Hb.alloc ?_ | refine Hb.drew ?_ | refine Hb.ext (by assumption) ?_ | exact Hb.setSameL (by first | omega | (simp only [size_alloc, size_setB, size_drew]; omega)) | exact Hb.setSame (by assumption) | refine Hb.set (by first | omega | (simp only [size_alloc, size_setB, size_drew]; omega)) ?_ )))) (Hb.mk (Hb.h (by repeat (first | assumption | exact Hb.newY _ _ | refine Hb.alloc ?_ | refine Hb.drew ?_ | refine Hb.ext (by assumption) ?_ | exact Hb.setSameL (by first | omega | (simp only [size_alloc, size_setB, size_drew]; omega)) | exact Hb.setSame (by assumption) | refine Hb.set (by first | omega | (simp only [size_alloc, size_setB, size_drew]; omega)) ?_ )))) hR6 hR7 hR8 hRL6 hRL7 hRL8) ?_)
          rintro _ w158_14 ⟨hE158_14, R12, rfl, hR12, hRL12⟩
          have hz158_14 := hE158_14.1
          try simp only [size_alloc, size_setB, size_drew] at hz158_14
          have hRs12 : (Value.agg (ic .u64 R12)).cells.size = 8 := by simp only [Value.cells, size_ic]; exact hR12
          have hpx : Xt (ic .u64 R12) 0 (0 + 8) (ic .u64 R12) := Xt.whole rfl (by rw [size_ic]; omega)
          refine WO_allocG Hvad.zeroValue224 ?_
          intro b12 v12 hg12 hE12 hH12 hl12
          try simp only [size_alloc, size_setB, size_drew] at hg12
          have hzz12 := hE12.1
          try simp only [size_alloc, size_setB, size_drew] at hzz12
          replace hH12 : Hb v12 b12 (.cells (ic .u64 (List.replicate 8 0)) 224 (0, 0)) := hH12
          refine WO_storeW Hvad.sizeOf224 rfl (v := .agg _) rfl (Hb.h (by repeat (first | assumption | exact Hb.newY _ _ | refine Hb.alloc ?_ | refine Hb.drew ?_ | refine Hb.ext (by assumption) ?_ | exact Hb.setSameL (by first | omega | (simp only [size_alloc, size_setB, size_drew]; omega)) | exact Hb.setSame (by assumption) | refine Hb.set (by first | omega | (simp only [size_alloc, size_setB, size_drew]; omega)) ?_ ))) rfl hRs12 (by first | rfl | (simp only [size_ic]; omega)) oneCell_ic ?_
          change WO _ _ _ _ _ (setB _ _ (.cells (ic .u64 R12) 224 (0, 0)))
          refine WO_nil ?_
          refine thn_normal ?_
          refine W_seq ?_
          refine W_region rfl ?_
          refine WO_allocG Hvad.zeroValue228 ?_
          intro b13 v13 hg13 hE13 hH13 hl13
          try simp only [size_alloc, size_setB, size_drew] at hg13
          have hzz13 := hE13.1
          try simp only [size_alloc, size_setB, size_drew] at hzz13
          replace hH13 : Hb v13 b13 (.cells (ic .u8 (List.replicate 64 0)) 228 (0, 0)) := hH13
          refine WO_nil ?_
          refine thn_normal ?_
          refine W_seq ?_
          refine W_seq ?_
          refine W_region rfl ?_
          refine WO_loadA _ Hvad.isAgg224 Hvad.sizeOf224 rfl (Hb.h (by repeat (first | assumption | exact Hb.newY _ _ | refine Hb.alloc ?_ | refine Hb.drew ?_ | refine Hb.ext (by assumption) ?_ | exact Hb.setSameL (by first | omega | (simp only [size_alloc, size_setB, size_drew]; omega)) | exact Hb.setSame (by assumption) | refine Hb.set (by first | omega | (simp only [size_alloc, size_setB, size_drew]; omega)) ?_ ))) (by first | omega | assumption | rfl | decide | exact Nat.le_refl _ | (simp only [size_ic, Value.cells]; omega) | simp) (Xt.h (by first | assumption | exact Xt.whole rfl rfl | exact Xt.whole rfl (by simp only [size_ic, Value.cells]; omega) | exact ⟨rfl⟩)) ?_
          refine WO_p (PS_move_int rfl) ?_
          refine WO_nil ?_
          refine thn_normal ?_
          refine W_block ?_
          refine W_loopN (fun m ρ w' => ∃ (i : Nat) (D12 : List Int), i + m = 8 ∧ D12.length = 64 ∧ By8 D12 ∧ Fr [(7, .int .i64 nm), (13, .pointer (some ⟨b13, 0, none⟩)), (53, .agg (ic .u64 R12)), (54, .int .i64 i)] ρ ∧ Ext w w' ∧ v13.heap.size ≤ w'.heap.size ∧ Hb w' b13 (.cells (ic .u8 D12) 228 (0, 0))) 8 ?_ ?_
          · exact ⟨0, List.replicate 64 0, rfl, by simp, by_zero 64, ⟨rfl, rfl, rfl, rfl, trivial⟩, (by repeat (first | assumption | exact Ext.refl _ | refine Ext.alloc ?_ _ | refine Ext.drew ?_ | refine Ext.setB ?_ (by first | omega | (simp only [size_alloc, size_setB, size_drew]; omega)) _ | refine Ext.trans ?_ (by assumption))), Nat.le_refl _, Hb.mk (Hb.h (by repeat (first | assumption | exact Hb.newY _ _ | refine Hb.alloc ?_ | refine Hb.drew ?_ | refine Hb.ext (by assumption) ?_ | exact Hb.setSameL (by first | omega | (simp only [size_alloc, size_setB, size_drew]; omega)) | exact Hb.setSame (by assumption) | refine Hb.set (by first | omega | (simp only [size_alloc, size_setB, size_drew]; omega)) ?_ )))⟩
          intro m ρ w12 hI
          obtain ⟨i, D12, him, hd12, hD12, hF12, hE12, hz12v, hb1312⟩ := hI
          refine W_env _ hF12 ?_
          have hz12 := hE12.1
          refine W_seq ?_
          refine W_region rfl ?_
          refine WO_p (PS_lss rfl rfl) ?_
          refine WO_nil ?_
          refine thn_normal ?_
          refine W_seq ?_
          refine W_if rfl (fun hb17 => ?_) (fun hb17 => ?_)
          · have hb17p := hb17.h; try simp only [al_ete, al_dfn, Bool.not_eq_true', Bool.not_eq_false', al_ne, Bool.not_not, al_nn] at hb17p
            have hceR : R12[(i : Int).toNat]? = some (R12.getD i 0) := by rw [Int.toNat_natCast, List.getD_eq_getElem?_getD, List.getElem?_eq_getElem (by omega)]; rfl
            refine W_skip ?_
            refine thn_normal ?_
            refine W_seq ?_
            refine W_block ?_
            refine W_seq ?_
            refine W_region rfl ?_
            refine WO_p (PS_move_int rfl) ?_
            refine WO_p (PS_indexV (k := .u64) (v := R12.getD i 0) (L := R12) Hvad.runUnderlying224 Hvad.sizeOf26 Hvad.isAgg26 rfl rfl (by omega) (by omega) hceR) ?_
            refine WO_p (PS_assign_int rfl) ?_
            refine WO_p (PS_assign_int rfl) ?_
            refine WO_nil ?_
            refine thn_normal ?_
            refine W_region rfl ?_
            refine WO_p (PS_slA Hvad.runUnderlying228 Hvad.sizeOf5 rfl (by omega)) ?_
            refine WO_p (PS_move_int rfl) ?_
            refine WO_p (PS_mul_i64n rfl rfl (by omega) (by omega)) ?_
            refine WO_p (PS_sub_i64n rfl rfl (by omega) (by omega)) ?_
            rw [show (56 : Int) - 8 * i = ((56 - 8 * i : Nat) : Int) by omega]
            refine WO_p (PS_move_int rfl) ?_
            refine WO_call Hvad.call120 (by rfl) (Ret.mono (putBE64_spec b13 64 64 (56 - 8 * i) 228 D12 _ _ (Hb.mk (Hb.h (by repeat (first | assumption | exact Hb.newY _ _ | refine Hb.alloc ?_ | refine Hb.drew ?_ | refine Hb.ext (by assumption) ?_ | exact Hb.setSameL (by first | omega | (simp only [size_alloc, size_setB, size_drew]; omega)) | exact Hb.setSame (by assumption) | refine Hb.set (by first | omega | (simp only [size_alloc, size_setB, size_drew]; omega)) ?_ )))) (by omega) (by omega) (by omega) (by omega) (hRL12.get i)) ?_)
            rintro _ w14 ⟨rfl, hT14⟩
            have hz14 := hT14.keep.sz
            refine WO_nil ?_
            refine inBlk_normal ?_
            refine thn_normal ?_
            refine W_region rfl ?_
            refine WO_p (PS_add_i64n rfl rfl (by omega) (by omega)) ?_
            refine WO_p (PS_move_int rfl) ?_
            refine WO_nil ?_
            refine thn_normal ?_
            exact ⟨m - 1, by omega, i + 1, _, by omega, hT14.len.trans hd12, hT14.ty hD12, ⟨rfl, rfl, rfl, congrArg (Value.int .i64) (by omega), trivial⟩, hT14.ext (by repeat (first | assumption | exact Ext.refl _ | refine Ext.alloc ?_ _ | refine Ext.drew ?_ | refine Ext.setB ?_ (by first | omega | (simp only [size_alloc, size_setB, size_drew]; omega)) _ | exact Ext.trans (by assumption) (by assumption) | refine Ext.trans ?_ (by assumption))) (by omega), by omega, hT14.hb⟩
          · have hb17p := hb17.h; try simp only [al_ete, al_dfn, Bool.not_eq_true', Bool.not_eq_false', al_ne, Bool.not_not, al_nn] at hb17p
            refine W_exit ?_
            refine thn_exit ?_
            refine thn_exit ?_
            refine inBlk_exit ?_
            refine thn_normal ?_
            refine W_seq ?_
            refine W_region rfl ?_
            refine WO_p (PS_move_int rfl) ?_
            refine WO_p (PS_sub_i64n rfl rfl (by omega) (by omega)) ?_
            refine WO_p (PS_slA_l Hvad.runUnderlying228 Hvad.sizeOf5 rfl rfl (by omega) (by omega) (by omega)) ?_
            rw [show ((64 : Int) - nm).toNat = 64 - nm by omega, show 64 - (64 - nm) = nm by omega]
            refine WO_call Hvad.call156 (by rfl) (Ret.mono (copiedM_spec (some ⟨b13, 0 + (64 - nm) * 1, none⟩, nm, nm) ((D12.drop (64 - nm)).take nm) _ (by have h := SC.of (o := 64 - nm) (n := nm) (cp := nm) (Hb.mk (Hb.h (by repeat (first | assumption | exact Hb.newY _ _ | refine Hb.alloc ?_ | refine Hb.drew ?_ | refine Hb.ext (by assumption) ?_ | exact Hb.setSameL (by first | omega | (simp only [size_alloc, size_setB, size_drew]; omega)) | exact Hb.setSame (by assumption) | refine Hb.set (by first | omega | (simp only [size_alloc, size_setB, size_drew]; omega)) ?_ ))) : Hb _ b13 (.cells (ic .u8 D12) 228 (0, 0))) (by omega); simpa using h) (by show nm ≤ 1000000; omega)) ?_)
            rintro _ w16 ⟨hE16, s2, rfl, hN2⟩
            have hz16 := hE16.1
            have hl2 := hN2.len
            refine WO_p (PS_assign_slice rfl) ?_
            refine WO_nil ?_
            refine thn_normal ?_
            refine W_ret ?_
            refine bodyQ_ret1 Hvad.results95 rfl (.slice _ _ _) rfl ?_
            exact ⟨(by repeat (first | assumption | exact Ext.refl _ | refine Ext.alloc ?_ _ | refine Ext.drew ?_ | refine Ext.setB ?_ (by first | omega | (simp only [size_alloc, size_setB, size_drew]; omega)) _ | exact Ext.trans (by assumption) (by assumption) | refine Ext.trans ?_ (by assumption))), s2, _, rfl, hN2.mono (by first | omega | exact Nat.le_refl _), fun z hz => hD12 z (List.mem_of_mem_drop (List.mem_of_mem_take hz)), Or.inr (by have h : ((D12.drop (64 - nm)).take nm).length ≤ nm := List.length_take_le _ _; omega)⟩

end Go.Proofs.YgvadwGreat
