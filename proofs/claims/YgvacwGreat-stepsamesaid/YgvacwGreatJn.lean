import Derived.Test.YgvacwGreatJm
import Derived.Test.YgvacwGreatMo
namespace Go.Proofs.YgvacwGreat
set_option linter.unusedSimpArgs false
set_option linter.unusedVariables false
/-- the block of the memory's buffer holds L -/
def BufX (w : World) (s : SV) (L : List Int) : Prop := (s = (none, 0, 0) ∧ L = []) ∨ ∃ b, s = (some ⟨b, 0, none⟩, s.2.1, L.length) ∧ Hb w b (.cells (ic .u8 L) 5 (0, 0)) ∧ (∀ x ∈ L, 0 ≤ x ∧ x ≤ 255) ∧ s.2.1 ≤ L.length
theorem BufX.s {w : World} {s : SV} {L : List Int} (h : BufX w s L) : BufS w s := by
  rcases h with ⟨h, _⟩ | ⟨b, h1, h2, h3, h4⟩
  · exact Or.inl h
  · exact Or.inr ⟨b, L, h1, h2, h3, h4⟩
theorem BufX.ext {w w' : World} {s : SV} {L : List Int} (h : BufX w s L) (he : Ext w w') : BufX w' s L := by
  rcases h with h | ⟨b, h1, h2, h3, h4⟩
  · exact Or.inl h
  · exact Or.inr ⟨b, h1, h2.ext he, h3, h4⟩
theorem BufX.kt {w w' : World} {s : SV} {L : List Int} (h : BufX w s L) (hk : KT 5 w w') : BufX w' s L := by
  rcases h with h | ⟨b, h1, h2, h3, h4⟩
  · exact Or.inl h
  · exact Or.inr ⟨b, h1, hk _ _ _ h2, h3, h4⟩
theorem BufX.hb {w : World} {s : SV} {L : List Int} (h : BufX w s L) {b : Nat} (hb : s.1 = some ⟨b, 0, none⟩) : s.2.2 = L.length ∧ Hb w b (.cells (ic .u8 L) 5 (0, 0)) ∧ (∀ x ∈ L, 0 ≤ x ∧ x ≤ 255) ∧ s.2.1 ≤ L.length := by
  rcases h with ⟨h, _⟩ | ⟨b', h1, h2, h3, h4⟩
  · rw [h] at hb; cases hb
  · have e : s.1 = some ⟨b', 0, none⟩ := by rw [h1]
    rw [hb] at e
    injection e with e
    injection e with e
    subst e
    exact ⟨by rw [h1], h2, h3, h4⟩
theorem BufX.put {w w' : World} {s : SV} {L L' : List Int} (h : BufX w s L) {b : Nat} (hb : s.1 = some ⟨b, 0, none⟩) (hb' : Hb w' b (.cells (ic .u8 L') 5 (0, 0))) (hl : L'.length = L.length) (hL : ∀ x ∈ L', 0 ≤ x ∧ x ≤ 255) : BufX w' s L' := by
  obtain ⟨h1, h2, h3, h4⟩ := h.hb hb
  exact Or.inr ⟨b, by rw [hl, ← h1, ← hb], hb', hL, by rw [hl]; exact h4⟩
theorem BufT.x {w w' : World} {s : SV} {L L' : List Int} {b : Nat} (h : BufX w s L) (hb : s.1 = some ⟨b, 0, none⟩) (hT : BufT b 5 L w w' L') : BufX w' s L' := h.put hb hT.hb hT.len (hT.ty (h.hb hb).2.2.1)
theorem zap_l {A : List Int} {B C : List Int} {k n : Nat} (h : n ≤ A.length) (hk : k < n) : (A.take n ++ B ++ C).getD k 0 = A.getD k 0 := by
  rw [getD_appI, getD_appI, if_pos (by simp; omega), if_pos (by simp; omega)]
  simp [List.getD_eq_getElem?_getD, List.getElem?_take, hk]
theorem zap_z {A C : List Int} {k m n : Nat} (h : A.length = m) (h1 : m ≤ k) (h2 : k < m + n) : (A ++ List.replicate n 0 ++ C).getD k 0 = 0 := by
  rw [getD_appI, getD_appI, if_pos (by simp; omega), if_neg (by omega), List.getD_eq_getElem?_getD, List.getElem?_replicate]
  split <;> rfl
theorem app0_goX {w : World} {s : SV} {L : List Int} (hb : BufX w s L) {n : Nat} (hn : 0 < n) (hn8 : s.2.1 + n ≤ 100000000) : ∃ (s' : SV) (w' : World) (L' : List Int), (Builtin.append_ #[32, 3] 32 #[.slice s.1 s.2.1 s.2.2, .int .i64 n]).run Hvac.prog w = .ok (.slice s'.1 s'.2.1 s'.2.2) w' ∧ BufX w' s' L' ∧ s'.2.1 = s.2.1 + n ∧ KeepO (fun b => ∃ a, s.1 = some a ∧ a.block = b) w w' ∧ ((∃ a, s.1 = some a ∧ s'.1 = some a) ∨ ∃ b, s'.1 = some ⟨b, 0, none⟩ ∧ w.heap.size ≤ b) ∧ (∀ k, k < s.2.1 → L'.getD k 0 = L.getD k 0) ∧ (∀ k, s.2.1 ≤ k → k < s.2.1 + n → L'.getD k 0 = 0) := by
  have hgc : ∀ need old, need ≤ grownCap w need old 5 := fun need old => Nat.le_add_right _ _
  obtain ⟨a, len, cap⟩ := s
  rcases hb with ⟨hb, hL0⟩ | ⟨b, hb, hr, hL, hlen⟩
  · injection hb with h1 h2
    injection h2 with h2 h3
    subst h1; subst h2; subst h3
    refine ⟨(some ⟨w.heap.size, 0, none⟩, 0 + n, grownCap w (0 + n) 0 5), _, [] ++ List.replicate n 0 ++ List.replicate (grownCap w (0 + n) 0 5 - (0 + n)) 0, app0_grow (sLen := 0) (cap := 0) (a := none) (old := []) rfl hn hn8 (by omega), Or.inr ⟨w.heap.size, ?_, Hb.newY w.drew _, ?_, ?_⟩, rfl, ((Ext.refl w).drew.alloc _).keepO _, Or.inr ⟨_, rfl, Nat.le_refl _⟩, fun k hk => absurd hk (Nat.not_lt_zero _), fun k h1 h2 => ?_⟩
    · have := hgc (0 + n) 0
      simp at this ⊢; omega
    · intro x hx; simp at hx; omega
    · simp
    · exact zap_z (A := []) (m := 0) rfl (Nat.zero_le _) h2
  · simp only at hb hlen hn8
    injection hb with h1 h2
    injection h2 with _ h3
    subst h1; subst h3
    by_cases hroom : len + n ≤ L.length
    · refine ⟨(some ⟨b, 0, none⟩, len + n, L.length), _, L.take len ++ List.replicate n 0 ++ L.drop (len + n), app0_room hr hn (by omega) hroom (by rw [size_ic]; exact Nat.le_refl _), Or.inr ⟨b, ?_, ?_, ?_, ?_⟩, rfl, (KeepO.refl _ w).setB (fun _ => ⟨_, rfl, rfl⟩) _, Or.inl ⟨_, rfl, rfl⟩, fun k hk => ?_, fun k h1 h2 => ?_⟩
      · simp; omega
      · have := splice_ic .u8 L (List.replicate n 0) len (by simpa using hroom)
        rw [this, List.length_replicate]
        exact Hb.setSame hr
      · intro x hx
        rcases List.mem_append.1 hx with hx | hx
        · rcases List.mem_append.1 hx with hx | hx
          · exact hL x (List.mem_of_mem_take hx)
          · rw [(List.mem_replicate.1 hx).2]; omega
        · exact hL x (List.mem_of_mem_drop hx)
      · simp; omega
      · exact zap_l (n := len) hlen hk
      · exact zap_z (m := len) (by simp; omega) h1 h2
    · have hold : (Builtin.firstCells 1 len (.slice (some ⟨b, 0, none⟩) len L.length)).run Hvac.prog w.drew = .ok (ic .u8 (L.take len)) w.drew := by
        have hl := run_firstCells_some (P := Hvac.prog) w.drew 1 len ⟨b, 0, none⟩ len L.length ((L.take len).map (Value.int .u8)) (by simp; omega) (fun j v hv => by
          rw [add_mk, cell_hp hr.drew.h]
          simp only [List.getElem?_map, List.getElem?_take] at hv
          split at hv
          · simpa [ic] using hv
          · cases hv)
        exact hl
      refine ⟨(some ⟨w.heap.size, 0, none⟩, len + n, grownCap w (len + n) L.length 5), _, L.take len ++ List.replicate n 0 ++ List.replicate (grownCap w (len + n) L.length 5 - (len + n)) 0, app0_grow (sLen := len) (cap := L.length) hold hn hn8 (by omega), Or.inr ⟨w.heap.size, ?_, Hb.newY w.drew _, ?_, ?_⟩, rfl, ((Ext.refl w).drew.alloc _).keepO _, Or.inr ⟨_, rfl, Nat.le_refl _⟩, fun k hk => ?_, fun k h1 h2 => ?_⟩
      · have := hgc (len + n) L.length
        simp; omega
      · intro x hx
        rcases List.mem_append.1 hx with hx | hx
        · rcases List.mem_append.1 hx with hx | hx
          · exact hL x (List.mem_of_mem_take hx)
          · rw [(List.mem_replicate.1 hx).2]; omega
        · rw [(List.mem_replicate.1 hx).2]; omega
      · simp; omega
      · exact zap_l (n := len) hlen hk
      · exact zap_z (m := len) (by simp; omega) h1 h2

theorem getD_part {L : List Int} {o q k : Nat} (hk : k < q) : ((L.drop o).take q).getD k 0 = L.getD (o + k) 0 := by
  simp [List.getD_eq_getElem?_getD, List.getElem?_take, List.getElem?_drop, hk]

set_option maxRecDepth 10000 in
theorem memRead_ex [Om] (C : Nat) (c : Array Value) (v : V) (B : VB) (m : Mc) (k lo n : Nat) (off q b : Nat) (w : World) (hM : MS w C c v B m) (L : List Int) (hBX : BufX w m.buf L) (hT : MemT m k lo n) (hb : m.buf.1 = some ⟨b, 0, none⟩) (hq : 0 < q) (hqn : off + q ≤ n) : Ret Hvac.prog 98 #[.pointer (some ⟨C, 1, none⟩), .int .u32 off, .int .u32 q] w fun u w' => Ext w w' ∧ ∃ s' : SV, u = .slice s'.1 s'.2.1 s'.2.2 ∧ NewB w w' s' ((L.drop (lo + off)).take q) := by
  obtain ⟨hcp, hr, hL, hle⟩ := hBX.hb hb
  have h1 := hT.le
  have h2 := hT.sz
  have hz : madeCells (Value.int IntKind.u8 0).cells (q * Hvac.t5.size) = ic .u8 (List.replicate q 0) := by rw [show Hvac.t5.size = 1 from rfl, Nat.mul_one]; exact made_ic .u8 q
  have hlp : ((L.drop (lo + off)).take q).length = q := len_part (by omega)
  refine Ret_of_W Hvac.func98 rfl rfl ?_
  refine W_seq ?_
  refine W_region rfl ?_
  refine WO_p (PS_assign_slice rfl) ?_
  refine WO_nil ?_
  refine thn_normal ?_
  refine W_seq ?_
  refine W_region rfl ?_
  refine WO_p (PS_move_ptr rfl) ?_
  refine WO_p (PS_move_int rfl) ?_
  refine WO_p (PS_move_int rfl) ?_
  refine WO_call Hvac.call167 (by rfl) (Ret.mono (memPart_spec C c v B m k lo n off q b _ hM hT hb hq hqn) ?_)
  rintro _ w1 ⟨hE1, rfl⟩
  have hr1 := Hb.ext hE1 hr
  refine WO_p (PS_move_tuple rfl) ?_
  refine WO_p (PS_extract_slice rfl rfl) ?_
  refine WO_p (PS_extract_bool rfl rfl) ?_
  refine WO_p (PS_assign_slice rfl) ?_
  refine WO_p (PS_assign_bool rfl) ?_
  refine WO_nil ?_
  refine thn_normal ?_
  refine W_seq ?_
  refine W_seq ?_
  refine W_region rfl ?_
  refine WO_p (PS_move_bool rfl) ?_
  refine WO_p (PS_not rfl) ?_
  refine WO_p (PS_move_bool rfl) ?_
  refine WO_if (t := 19) rfl (fun hb4 => ?_) (fun hb4 => ?_)
  · have hb4p := hb4.h; try simp only [al_ete, al_dfn, Bool.not_eq_true', Bool.not_eq_false', al_ne, Bool.not_not, al_nn] at hb4p
    simp at hb4p --END
  · have hb4p := hb4.h; try simp only [al_ete, al_dfn, Bool.not_eq_true', Bool.not_eq_false', al_ne, Bool.not_not, al_nn] at hb4p
    refine WO_guardT rfl rfl hb4.h ?_
    refine WO_p (PS_move_int rfl) ?_
    refine WO_guardT rfl rfl hb4.h ?_
    refine WO_p (PS_eql rfl rfl) ?_
    refine WO_p (PS_pickF rfl hb4.h rfl) ?_
    refine WO_nil ?_
    refine thn_normal ?_
    refine W_if rfl (fun hb6 => ?_) (fun hb6 => ?_)
    · have hb6p := hb6.h; try simp only [al_ete, al_dfn, Bool.not_eq_true', Bool.not_eq_false', al_ne, Bool.not_not, al_nn] at hb6p
      omega --END
    · have hb6p := hb6.h; try simp only [al_ete, al_dfn, Bool.not_eq_true', Bool.not_eq_false', al_ne, Bool.not_not, al_nn] at hb6p
      refine W_skip ?_
      refine thn_normal ?_
      refine W_seq ?_
      refine W_region rfl ?_
      refine WO_p (PS_move_int rfl) ?_
      refine WO_make (z := .int .u8 0) Hvac.underlying32 info5 rfl rfl rfl (by omega) (by omega) (by show (1:Int) * _ ≤ _; omega) (by omega) ?_
      rw [show ((q:Int)).toNat = q from Int.toNat_natCast q, hz]
      refine WO_p (PS_assign_slice rfl) ?_
      refine WO_nil ?_
      refine thn_normal ?_
      refine W_seq ?_
      refine W_region rfl ?_
      refine WO_p (PS_move_slice rfl) ?_
      refine WO_p (PS_move_slice rfl) ?_
      refine WO_copy q Hvac.runUnderlying32 Hvac.sizeOf5 rfl rfl (Hb.h (Hb.newY _ _)) (Hb.h (Hb.alloc hr1)) (Nat.min_self q) (by rw [size_ic, List.length_replicate]; omega) (by rw [size_ic]; omega) (by rw [Nat.mul_one]; exact (Xt.ic .u8 L (lo + off) q (by omega)).h) oneCell_ic ?_
      rw [splice_whole rfl (by rw [size_ic, List.length_replicate]; show (((L.drop (lo + off)).take q).map (Value.int .u8)).length = q; rw [List.length_map]; exact hlp)]
      have hs1 := hE1.1
      refine WO_nil ?_
      refine thn_normal ?_
      refine W_seq ?_
      refine W_region rfl ?_
      refine WO_p (PS_move_slice rfl) ?_
      refine WO_p (PS_assign_slice rfl) ?_
      refine WO_nil ?_
      refine thn_normal ?_
      refine W_ret ?_
      refine bodyQ_ret1 Hvac.results98 rfl (.slice _ _ _) rfl ?_
      exact ⟨(by repeat (first | assumption | exact Ext.refl _ | refine Ext.alloc ?_ _ | refine Ext.drew ?_ | refine Ext.setB ?_ (by first | omega | (simp only [size_alloc, size_setB, size_drew]; omega)) _ | refine Ext.trans ?_ (by assumption))), (some ⟨w1.heap.size, 0, none⟩, q, q), rfl, Or.inr ⟨by intro e; rw [e] at hlp; simp at hlp; omega, w1.heap.size, by rw [hlp], hE1.1, Hb.setSameL (by first | omega | (simp only [size_alloc, size_setB, size_drew]; omega))⟩⟩

set_option maxRecDepth 10000 in
theorem memLoad32_ex [Om] (C : Nat) (c : Array Value) (v : V) (B : VB) (m : Mc) (k lo n : Nat) (off b : Nat) (w : World) (hM : MS w C c v B m) (L : List Int) (hBX : BufX w m.buf L) (hT : MemT m k lo n) (hb : m.buf.1 = some ⟨b, 0, none⟩) (hqn : off + 32 ≤ n) : Ret Hvac.prog 275 #[.pointer (some ⟨C, 1, none⟩), .int .u32 off] w fun u w' => Ext w w' ∧ u = .tuple #[.agg (ic .u8 ((L.drop (lo + off)).take 32)), .bool true] ∧ By ((L.drop (lo + off)).take 32) 32 := by
  obtain ⟨hcp, hr, hL, hle⟩ := hBX.hb hb
  have h1 := hT.le
  have h2 := hT.sz
  have hlp : ((L.drop (lo + off)).take 32).length = 32 := len_part (by omega)
  have hxt := Xt.ic .u8 L (lo + off) 32 (by omega)
  refine Ret_of_W Hvac.func275 rfl rfl ?_
  refine W_seq ?_
  refine W_region rfl ?_
  refine WO_alloc Hvac.zeroValue27 ?_
  refine WO_p (PS_assign_bool rfl) ?_
  refine WO_nil ?_
  refine thn_normal ?_
  refine W_seq ?_
  refine W_region rfl ?_
  refine WO_p (PS_move_ptr rfl) ?_
  refine WO_p (PS_move_int rfl) ?_
  refine WO_call Hvac.call167 (by rfl) (Ret.mono (memPart_spec C c v B m k lo n off 32 b _ (hM.ext (by repeat (first | assumption | exact Ext.refl _ | refine Ext.alloc ?_ _ | refine Ext.drew ?_ | refine Ext.setB ?_ (by first | omega | (simp only [size_alloc, size_setB, size_drew]; omega)) _ | exact Ext.trans (by assumption) (by assumption) | refine Ext.trans ?_ (by assumption)))) hT hb (by omega) hqn) ?_)
  rintro _ w1 ⟨hE1, rfl⟩
  have hr1 : Hb w1 b (.cells (ic .u8 L) 5 (0, 0)) := Hb.ext hE1 (Hb.mk (Hb.h (by repeat (first | assumption | exact Hb.newY _ _ | refine Hb.alloc ?_ | refine Hb.drew ?_ | refine Hb.ext (by assumption) ?_ | exact Hb.setSameL (by first | omega | (simp only [size_alloc, size_setB, size_drew]; omega)) | exact Hb.setSame (by assumption) | refine Hb.set (by first | omega | (simp only [size_alloc, size_setB, size_drew]; omega)) ?_ ))))
  have hB1 := Hb.ext hE1 (Hb.newY _ _)
  have hs1 := hB1.lt
  replace hE1 : Ext w w1 := Ext.trans (by repeat (first | assumption | exact Ext.refl _ | refine Ext.alloc ?_ _ | refine Ext.drew ?_ | refine Ext.setB ?_ (by first | omega | (simp only [size_alloc, size_setB, size_drew]; omega)) _ | exact Ext.trans (by assumption) (by assumption) | refine Ext.trans ?_ (by assumption))) hE1
  refine WO_p (PS_move_tuple rfl) ?_
  refine WO_p (PS_extract_slice rfl rfl) ?_
  refine WO_p (PS_extract_bool rfl rfl) ?_
  refine WO_p (PS_assign_slice rfl) ?_
  refine WO_p (PS_assign_bool rfl) ?_
  refine WO_nil ?_
  refine thn_normal ?_
  refine W_seq ?_
  refine W_seq ?_
  refine W_region rfl ?_
  refine WO_p (PS_move_bool rfl) ?_
  refine WO_p (PS_not rfl) ?_
  refine WO_nil ?_
  refine thn_normal ?_
  refine W_if rfl (fun hb4 => ?_) (fun hb4 => ?_)
  · have hb4p := hb4.h; try simp only [al_ete, al_dfn, Bool.not_eq_true', Bool.not_eq_false', al_ne, Bool.not_not, al_nn] at hb4p
    simp at hb4p --END
  · have hb4p := hb4.h; try simp only [al_ete, al_dfn, Bool.not_eq_true', Bool.not_eq_false', al_ne, Bool.not_not, al_nn] at hb4p
    refine W_skip ?_
    refine thn_normal ?_
    refine W_seq ?_
    refine W_region rfl ?_
    refine WO_p (PS_move_slice rfl) ?_
    refine WO_p (PS_arrayAt Hvac.runUnderlying27 rfl (by omega)) ?_
    refine WO_loadA _ Hvac.isAgg27 Hvac.sizeOf27 rfl (Hb.h (by repeat (first | assumption | exact Hb.newY _ _ | refine Hb.alloc ?_ | refine Hb.drew ?_ | refine Hb.ext (by assumption) ?_ | exact Hb.setSameL (by first | omega | (simp only [size_alloc, size_setB, size_drew]; omega)) | exact Hb.setSame (by assumption) | refine Hb.set (by first | omega | (simp only [size_alloc, size_setB, size_drew]; omega)) ?_ ))) (by first | omega | assumption | rfl | decide | exact Nat.le_refl _ | (simp only [size_ic, Value.cells]; omega) | (simp; omega) | simp) (Xt.h (by first | assumption | exact Xt.whole rfl rfl | exact Xt.whole rfl (by assumption) | exact Xt.whole rfl (by simp only [size_ic, Value.cells]; omega) | exact ⟨rfl⟩)) ?_
    first | refine WO_storeW Hvac.sizeOf27 rfl (v := .agg _) rfl (Hb.h (by repeat (first | assumption | exact Hb.newY _ _ | refine Hb.alloc ?_ | refine Hb.drew ?_ | refine Hb.ext (by assumption) ?_ | exact Hb.setSameL (by first | omega | (simp only [size_alloc, size_setB, size_drew]; omega)) | exact Hb.setSame (by assumption) | refine Hb.set (by first | omega | (simp only [size_alloc, size_setB, size_drew]; omega)) ?_ ))) rfl (by first | omega | assumption | rfl | decide | exact Nat.le_refl _ | (simp only [size_ic, Value.cells]; omega) | (simp; omega) | simp) (by first | omega | assumption | rfl | decide | exact Nat.le_refl _ | (simp only [size_ic, Value.cells]; omega) | (simp; omega) | simp) (by first | exact oneCell_ic | assumption | exact one_Ws2 _ | exact one_YA2 _ | exact one_YSl2 _ | exact one_YM2 _ | exact one_YT2 _ | exact one_L2 _) ?_ | refine WO_store Hvac.sizeOf27 rfl (v := .agg _) rfl (Hb.h (by repeat (first | assumption | exact Hb.newY _ _ | refine Hb.alloc ?_ | refine Hb.drew ?_ | refine Hb.ext (by assumption) ?_ | exact Hb.setSameL (by first | omega | (simp only [size_alloc, size_setB, size_drew]; omega)) | exact Hb.setSame (by assumption) | refine Hb.set (by first | omega | (simp only [size_alloc, size_setB, size_drew]; omega)) ?_ ))) (by first | omega | assumption | rfl | decide | exact Nat.le_refl _ | (simp only [size_ic, Value.cells]; omega) | (simp; omega) | simp) (by first | omega | assumption | rfl | decide | exact Nat.le_refl _ | (simp only [size_ic, Value.cells]; omega) | (simp; omega) | simp) (by first | exact oneCell_ic | assumption | exact one_Ws2 _ | exact one_YA2 _ | exact one_YSl2 _ | exact one_YM2 _ | exact one_YT2 _ | exact one_L2 _) ?_
    refine WO_p (PS_assign_bool rfl) ?_
    refine WO_nil ?_
    refine thn_normal ?_
    refine W_ret ?_
    refine bodyQ_cellT (.bool _) Hvac.results275 rfl rfl Hvac.isAgg27 Hvac.sizeOf27 rfl (Hb.h (by repeat (first | assumption | exact Hb.newY _ _ | refine Hb.alloc ?_ | refine Hb.drew ?_ | refine Hb.ext (by assumption) ?_ | exact Hb.setSameL (by first | omega | (simp only [size_alloc, size_setB, size_drew]; omega)) | exact Hb.setSame (by assumption) | refine Hb.set (by first | omega | (simp only [size_alloc, size_setB, size_drew]; omega)) ?_ ))) (by first | omega | assumption | rfl | decide | exact Nat.le_refl _ | (simp only [size_ic, Value.cells]; omega) | (simp; omega) | simp) rfl ?_
    exact ⟨(by repeat (first | assumption | exact Ext.refl _ | refine Ext.alloc ?_ _ | refine Ext.drew ?_ | refine Ext.setB ?_ (by first | omega | (simp only [size_alloc, size_setB, size_drew]; omega)) _ | refine Ext.trans ?_ (by assumption))), rfl, hlp, by_part hL _ _⟩

set_option maxRecDepth 10000 in
theorem memStore32_ex [Om] (C : Nat) (c : Array Value) (v : V) (B : VB) (m : Mc) (k lo n : Nat) (off b : Nat) (W : List Int) (w : World) (hM : MS w C c v B m) (L : List Int) (hBX : BufX w m.buf L) (hT : MemT m k lo n) (hb : m.buf.1 = some ⟨b, 0, none⟩) (hqn : off + 32 ≤ n) (hW : By W 32) : Ret Hvac.prog 276 #[.pointer (some ⟨C, 1, none⟩), .int .u32 off, .agg (ic .u8 W)] w fun u w' => u = .bool true ∧ MRet w C B m w' v m ∧ BufX w' m.buf (mid L (lo + off) W) := by
  obtain ⟨hcp, hr, hL, hle⟩ := hBX.hb hb
  have h1 := hT.le
  have h2 := hT.sz
  have hWl := hW.1
  have hxt := Xt.ic .u8 L (lo + off) 32 (by omega)
  refine Ret_of_W Hvac.func276 rfl rfl ?_
  refine W_seq ?_
  refine W_region rfl ?_
  refine WO_box (.agg _) rfl ?_
  refine WO_p (PS_assign_bool rfl) ?_
  refine WO_nil ?_
  refine thn_normal ?_
  refine W_seq ?_
  refine W_region rfl ?_
  refine WO_p (PS_move_ptr rfl) ?_
  refine WO_p (PS_move_int rfl) ?_
  refine WO_call Hvac.call167 (by rfl) (Ret.mono (memPart_spec C c v B m k lo n off 32 b _ (hM.ext (by repeat (first | assumption | exact Ext.refl _ | refine Ext.alloc ?_ _ | refine Ext.drew ?_ | refine Ext.setB ?_ (by first | omega | (simp only [size_alloc, size_setB, size_drew]; omega)) _ | exact Ext.trans (by assumption) (by assumption) | refine Ext.trans ?_ (by assumption)))) hT hb (by omega) hqn) ?_)
  rintro _ w1 ⟨hE1, rfl⟩
  have hB1 : Hb w1 w.heap.size (.cells (ic .u8 W) 27 (0, 0)) := Hb.ext hE1 (Hb.newY _ _)
  replace hE1 : Ext w w1 := Ext.trans (by repeat (first | assumption | exact Ext.refl _ | refine Ext.alloc ?_ _ | refine Ext.drew ?_ | refine Ext.setB ?_ (by first | omega | (simp only [size_alloc, size_setB, size_drew]; omega)) _ | exact Ext.trans (by assumption) (by assumption) | refine Ext.trans ?_ (by assumption))) hE1
  have hr1 : Hb w1 b (.cells (ic .u8 L) 5 (0, 0)) := Hb.ext hE1 hr
  refine WO_p (PS_move_tuple rfl) ?_
  refine WO_p (PS_extract_slice rfl rfl) ?_
  refine WO_p (PS_extract_bool rfl rfl) ?_
  refine WO_p (PS_assign_slice rfl) ?_
  refine WO_p (PS_assign_bool rfl) ?_
  refine WO_nil ?_
  refine thn_normal ?_
  refine W_seq ?_
  refine W_seq ?_
  refine W_region rfl ?_
  refine WO_p (PS_move_bool rfl) ?_
  refine WO_p (PS_not rfl) ?_
  refine WO_nil ?_
  refine thn_normal ?_
  refine W_if rfl (fun hb4 => ?_) (fun hb4 => ?_)
  · have hb4p := hb4.h; try simp only [al_ete, al_dfn, Bool.not_eq_true', Bool.not_eq_false', al_ne, Bool.not_not, al_nn] at hb4p
    simp at hb4p --END
  · have hb4p := hb4.h; try simp only [al_ete, al_dfn, Bool.not_eq_true', Bool.not_eq_false', al_ne, Bool.not_not, al_nn] at hb4p
    refine W_skip ?_
    refine thn_normal ?_
    refine W_seq ?_
    refine W_drawE [false, false, false, false, false] hmix (by kernel_rfl) rfl ?_
    refine WH_p (PS_move_slice rfl) rfl ?_
    refine WH_p (PS_arrayAt Hvac.runUnderlying27 rfl (by omega)) rfl ?_
    refine WH_loadA _ Hvac.isAgg27 Hvac.sizeOf27 rfl (Hb.h (by repeat (first | assumption | exact Hb.newY _ _ | refine Hb.alloc ?_ | refine Hb.drew ?_ | refine Hb.ext (by assumption) ?_ | exact Hb.setSameL (by first | omega | (simp only [size_alloc, size_setB, size_drew]; omega)) | exact Hb.setSame (by assumption) | refine Hb.set (by first | omega | (simp only [size_alloc, size_setB, size_drew]; omega)) ?_ ))) (by first | omega | assumption | rfl | decide | exact Nat.le_refl _ | (simp only [size_ic, Value.cells]; omega) | (simp; omega) | simp) (Xt.h (by first | assumption | exact Xt.whole rfl rfl | exact Xt.whole rfl (by assumption) | exact Xt.whole rfl (by simp only [size_ic, Value.cells]; omega) | exact ⟨rfl⟩)) ?_
    refine WH_p (PS_nilCheck rfl) rfl ?_
    first | refine WH_storeW Hvac.sizeOf27 rfl (v := .agg _) rfl (Hb.h (by repeat (first | assumption | exact Hb.newY _ _ | refine Hb.alloc ?_ | refine Hb.drew ?_ | refine Hb.ext (by assumption) ?_ | exact Hb.setSameL (by first | omega | (simp only [size_alloc, size_setB, size_drew]; omega)) | exact Hb.setSame (by assumption) | refine Hb.set (by first | omega | (simp only [size_alloc, size_setB, size_drew]; omega)) ?_ ))) rfl (by first | omega | assumption | rfl | decide | exact Nat.le_refl _ | (simp only [size_ic, Value.cells]; omega) | (simp; omega) | simp) (by first | omega | assumption | rfl | decide | exact Nat.le_refl _ | (simp only [size_ic, Value.cells]; omega) | (simp; omega) | simp) (by first | exact oneCell_ic | assumption | exact one_Ws2 _ | exact one_YA2 _ | exact one_YSl2 _ | exact one_YM2 _ | exact one_YT2 _ | exact one_L2 _) (fun h => by cases h) ?_ | refine WH_store Hvac.sizeOf27 rfl (v := .agg _) rfl (Hb.h (by repeat (first | assumption | exact Hb.newY _ _ | refine Hb.alloc ?_ | refine Hb.drew ?_ | refine Hb.ext (by assumption) ?_ | exact Hb.setSameL (by first | omega | (simp only [size_alloc, size_setB, size_drew]; omega)) | exact Hb.setSame (by assumption) | refine Hb.set (by first | omega | (simp only [size_alloc, size_setB, size_drew]; omega)) ?_ ))) (by first | omega | assumption | rfl | decide | exact Nat.le_refl _ | (simp only [size_ic, Value.cells]; omega) | (simp; omega) | simp) (by first | omega | assumption | rfl | decide | exact Nat.le_refl _ | (simp only [size_ic, Value.cells]; omega) | (simp; omega) | simp) (by first | exact oneCell_ic | assumption | exact one_Ws2 _ | exact one_YA2 _ | exact one_YSl2 _ | exact one_YM2 _ | exact one_YT2 _ | exact one_L2 _) (fun h => by cases h) ?_
    refine WH_nil ?_
    refine thn_normal ?_
    refine W_seq ?_
    rw [show splice (ic .u8 L) (lo + off) (Value.agg (ic .u8 W)).cells.toList = ic .u8 (L.take (lo + off) ++ W ++ L.drop (lo + off + W.length)) from splice_ic .u8 L W (lo + off) (by omega)]
    obtain ⟨hM2, hS2⟩ := ((hM.ext hE1).ext (Ext.drew (Ext.refl w1))).putBuf (L' := L.take (lo + off) ++ W ++ L.drop (lo + off + W.length)) hb hcp (Hb.drew hr1) hle (len_mid (by omega)) (by_mid hL hW.2 _ _)
    refine W_region rfl ?_
    refine WO_p (PS_assign_bool rfl) ?_
    refine WO_nil ?_
    refine thn_normal ?_
    refine W_ret ?_
    refine bodyQ_ret1 Hvac.results276 rfl (.bool _) rfl ?_
    exact ⟨rfl, ⟨_, _, hM2, ((MStep.ext hE1).trans (MStep.ext (Ext.drew (Ext.refl w1)))).trans hS2⟩, hBX.put hb (Hb.setSame (Hb.drew hr1)) (len_mid (by omega)) (by_mid hL hW.2 _ _)⟩

set_option maxRecDepth 10000 in
theorem memStore8_ex [Om] (C : Nat) (c : Array Value) (v : V) (B : VB) (m : Mc) (k lo n : Nat) (off b : Nat) (x : Int) (w : World) (hM : MS w C c v B m) (L : List Int) (hBX : BufX w m.buf L) (hT : MemT m k lo n) (hb : m.buf.1 = some ⟨b, 0, none⟩) (hqn : off + 1 ≤ n) (hx : 0 ≤ x ∧ x ≤ 255) : Ret Hvac.prog 277 #[.pointer (some ⟨C, 1, none⟩), .int .u32 off, .int .u8 x] w fun u w' => u = .bool true ∧ MRet w C B m w' v m ∧ BufX w' m.buf (mid L (lo + off) [x]) := by
  obtain ⟨hcp, hr, hL, hle⟩ := hBX.hb hb
  have h1 := hT.le
  have h2 := hT.sz
  
  refine Ret_of_W Hvac.func277 rfl rfl ?_
  refine W_seq ?_
  refine W_region rfl ?_
  refine WO_p (PS_assign_bool rfl) ?_
  refine WO_nil ?_
  refine thn_normal ?_
  refine W_seq ?_
  refine W_region rfl ?_
  refine WO_p (PS_move_ptr rfl) ?_
  refine WO_p (PS_move_int rfl) ?_
  refine WO_call Hvac.call167 (by rfl) (Ret.mono (memPart_spec C c v B m k lo n off 1 b _ hM hT hb (by omega) hqn) ?_)
  rintro _ w1 ⟨hE1, rfl⟩
  have hr1 := Hb.ext hE1 hr
  refine WO_p (PS_move_tuple rfl) ?_
  refine WO_p (PS_extract_slice rfl rfl) ?_
  refine WO_p (PS_extract_bool rfl rfl) ?_
  refine WO_p (PS_assign_slice rfl) ?_
  refine WO_p (PS_assign_bool rfl) ?_
  refine WO_nil ?_
  refine thn_normal ?_
  refine W_seq ?_
  refine W_seq ?_
  refine W_region rfl ?_
  refine WO_p (PS_move_bool rfl) ?_
  refine WO_p (PS_not rfl) ?_
  refine WO_nil ?_
  refine thn_normal ?_
  refine W_if rfl (fun hb4 => ?_) (fun hb4 => ?_)
  · have hb4p := hb4.h; try simp only [al_ete, al_dfn, Bool.not_eq_true', Bool.not_eq_false', al_ne, Bool.not_not, al_nn] at hb4p
    simp at hb4p --END
  · have hb4p := hb4.h; try simp only [al_ete, al_dfn, Bool.not_eq_true', Bool.not_eq_false', al_ne, Bool.not_not, al_nn] at hb4p
    refine W_skip ?_
    refine thn_normal ?_
    refine W_seq ?_
    refine W_region rfl ?_
    refine WO_p (PS_move_slice rfl) ?_
    refine WO_p (PS_move_int rfl) ?_
    refine WO_p (PS_indexS Hvac.runUnderlying32 Hvac.sizeOf5 rfl rfl (by omega) (by omega)) ?_
    refine WO_store1 Hvac.sizeOf5 rfl (v := (.int _ _)) rfl (Hb.h (by repeat (first | assumption | exact Hb.newY _ _ | refine Hb.alloc ?_ | refine Hb.drew ?_ | refine Hb.ext (by assumption) ?_ | exact Hb.setSameL (by first | omega | (simp only [size_alloc, size_setB, size_drew]; omega)) | exact Hb.setSame (by assumption) | refine Hb.set (by first | omega | (simp only [size_alloc, size_setB, size_drew]; omega)) ?_ ))) rfl (by first | omega | assumption | rfl | decide | exact Nat.le_refl _ | (simp only [size_ic, Value.cells]; omega) | (simp; omega) | simp) rfl ?_
    refine WO_nil ?_
    refine thn_normal ?_
    refine W_seq ?_
    rw [show (ic .u8 L).setIfInBounds (lo + off + (0 : Int).toNat * 1) (.int .u8 x) = ic .u8 (L.take (lo + off) ++ [x] ++ L.drop (lo + off + 1)) from splice_ic .u8 L [x] (lo + off) (by simp; omega)]
    obtain ⟨hM2, hS2⟩ := (hM.ext hE1).putBuf (L' := L.take (lo + off) ++ [x] ++ L.drop (lo + off + 1)) hb hcp hr1 hle (len_mid (M := [x]) (by simp; omega)) (by_mid hL (by intro y hy; rw [List.mem_singleton.1 hy]; exact hx) _ _)
    refine W_region rfl ?_
    refine WO_p (PS_assign_bool rfl) ?_
    refine WO_nil ?_
    refine thn_normal ?_
    refine W_ret ?_
    refine bodyQ_ret1 Hvac.results277 rfl (.bool _) rfl ?_
    exact ⟨rfl, ⟨_, _, hM2, (MStep.ext hE1).trans hS2⟩, hBX.put hb (Hb.setSame hr1) (len_mid (M := [x]) (by simp; omega)) (by_mid hL (by intro y hy; rw [List.mem_singleton.1 hy]; exact hx) _ _)⟩

set_option maxRecDepth 10000 in
theorem memMove_ex [Om] (C : Nat) (c : Array Value) (v : V) (B : VB) (m : Mc) (k lo n : Nat) (dst src q b : Nat) (w : World) (hM : MS w C c v B m) (L : List Int) (hBX : BufX w m.buf L) (hT : MemT m k lo n) (hb : m.buf.1 = some ⟨b, 0, none⟩) (hq : 0 < q) (hqn : dst + q ≤ n) (hqs : src + q ≤ n) : Ret Hvac.prog 272 #[.pointer (some ⟨C, 1, none⟩), .int .u32 dst, .int .u32 src, .int .u32 q] w fun u w' => u = .bool true ∧ MRet w C B m w' v m ∧ BufX w' m.buf (mid L (lo + dst) ((L.drop (lo + src)).take q)) := by
  obtain ⟨hcp, hr, hL, hle⟩ := hBX.hb hb
  have h1 := hT.le
  have h2 := hT.sz
  have hlp : ((L.drop (lo + src)).take q).length = q := len_part (by omega)
  refine Ret_of_W Hvac.func272 rfl rfl ?_
  refine W_seq ?_
  refine W_region rfl ?_
  refine WO_p (PS_assign_bool rfl) ?_
  refine WO_nil ?_
  refine thn_normal ?_
  refine W_seq ?_
  refine W_region rfl ?_
  refine WO_p (PS_move_ptr rfl) ?_
  refine WO_p (PS_move_int rfl) ?_
  refine WO_p (PS_move_int rfl) ?_
  refine WO_call Hvac.call167 (by rfl) (Ret.mono (memPart_spec C c v B m k lo n dst q b _ hM hT hb (by omega) hqn) ?_)
  rintro _ w1 ⟨hE1, rfl⟩
  refine WO_p (PS_move_tuple rfl) ?_
  refine WO_p (PS_extract_slice rfl rfl) ?_
  refine WO_p (PS_extract_bool rfl rfl) ?_
  refine WO_p (PS_assign_slice rfl) ?_
  refine WO_p (PS_assign_bool rfl) ?_
  refine WO_nil ?_
  refine thn_normal ?_
  refine W_seq ?_
  refine W_region rfl ?_
  refine WO_p (PS_move_ptr rfl) ?_
  refine WO_p (PS_move_int rfl) ?_
  refine WO_p (PS_move_int rfl) ?_
  refine WO_call Hvac.call167 (by rfl) (Ret.mono (memPart_spec C c v B m k lo n src q b _ (hM.ext hE1) hT hb (by omega) hqs) ?_)
  rintro _ w2 ⟨hE2, rfl⟩
  have hr1 := Hb.ext hE2 (Hb.ext hE1 hr)
  replace hE2 := Ext.trans hE1 hE2
  refine WO_p (PS_move_tuple rfl) ?_
  refine WO_p (PS_extract_slice rfl rfl) ?_
  refine WO_p (PS_extract_bool rfl rfl) ?_
  refine WO_p (PS_assign_slice rfl) ?_
  refine WO_p (PS_assign_bool rfl) ?_
  refine WO_nil ?_
  refine thn_normal ?_
  refine W_seq ?_
  refine W_seq ?_
  refine W_region rfl ?_
  refine WO_p (PS_move_bool rfl) ?_
  refine WO_p (PS_not rfl) ?_
  refine WO_p (PS_move_bool rfl) ?_
  refine WO_if (t := 29) rfl (fun hb6 => ?_) (fun hb6 => ?_)
  · have hb6p := hb6.h; try simp only [al_ete, al_dfn, Bool.not_eq_true', Bool.not_eq_false', al_ne, Bool.not_not, al_nn] at hb6p
    simp at hb6p --END
  · have hb6p := hb6.h; try simp only [al_ete, al_dfn, Bool.not_eq_true', Bool.not_eq_false', al_ne, Bool.not_not, al_nn] at hb6p
    refine WO_guardT rfl rfl hb6.h ?_
    refine WO_p (PS_move_bool rfl) ?_
    refine WO_guardT rfl rfl hb6.h ?_
    refine WO_p (PS_not rfl) ?_
    refine WO_p (PS_pickF rfl hb6.h rfl) ?_
    refine WO_nil ?_
    refine thn_normal ?_
    refine W_if rfl (fun hb8 => ?_) (fun hb8 => ?_)
    · have hb8p := hb8.h; try simp only [al_ete, al_dfn, Bool.not_eq_true', Bool.not_eq_false', al_ne, Bool.not_not, al_nn] at hb8p
      simp at hb8p --END
    · have hb8p := hb8.h; try simp only [al_ete, al_dfn, Bool.not_eq_true', Bool.not_eq_false', al_ne, Bool.not_not, al_nn] at hb8p
      refine W_skip ?_
      refine thn_normal ?_
      refine W_seq ?_
      refine W_region rfl ?_
      refine WO_p (PS_move_slice rfl) ?_
      refine WO_p (PS_move_slice rfl) ?_
      refine WO_copy q Hvac.runUnderlying32 Hvac.sizeOf5 rfl rfl (Hb.h hr1) (Hb.h hr1) (Nat.min_self q) (by rw [size_ic]; omega) (by rw [size_ic]; omega) (by rw [Nat.mul_one]; exact (Xt.ic .u8 L (lo + src) q (by omega)).h) oneCell_ic ?_
      rw [show splice (ic .u8 L) (lo + dst) (Value.agg (ic .u8 ((L.drop (lo + src)).take q))).cells.toList = ic .u8 (L.take (lo + dst) ++ (L.drop (lo + src)).take q ++ L.drop (lo + dst + ((L.drop (lo + src)).take q).length)) from splice_ic .u8 L _ (lo + dst) (by omega)]
      obtain ⟨hM2, hS2⟩ := (hM.ext hE2).putBuf (L' := L.take (lo + dst) ++ (L.drop (lo + src)).take q ++ L.drop (lo + dst + ((L.drop (lo + src)).take q).length)) hb hcp hr1 hle (len_mid (by omega)) (by_mid hL (by_part hL _ _) _ _)
      refine WO_nil ?_
      refine thn_normal ?_
      refine W_seq ?_
      refine W_region rfl ?_
      refine WO_p (PS_assign_bool rfl) ?_
      refine WO_nil ?_
      refine thn_normal ?_
      refine W_ret ?_
      refine bodyQ_ret1 Hvac.results272 rfl (.bool _) rfl ?_
      exact ⟨rfl, ⟨_, _, hM2, (MStep.ext hE2).trans hS2⟩, hBX.put hb (Hb.setSame hr1) (len_mid (by omega)) (by_mid hL (by_part hL _ _) _ _)⟩

theorem getD_repI (n k : Nat) : (List.replicate n (0 : Int)).getD k 0 = 0 := by
  rw [List.getD_eq_getElem?_getD, List.getElem?_replicate]
  split <;> rfl
theorem wr_a {L L2 L3 Ls : List Int} {o f q sl : Nat} (hl : Ls.length = sl) (hf : f < sl) (ho : o + q ≤ L.length) (h2 : L2 = mid L o ((Ls.drop f).take (Nat.min (sl - f) q))) (h3 : L3 = mid L2 (o + Nat.min (sl - f) q) (List.replicate (q - Nat.min (sl - f) q) 0)) (j : Nat) : L3.getD j 0 = if o ≤ j ∧ j < o + q then Ls.getD (f + (j - o)) 0 else L.getD j 0 := by
  have hm1 : Nat.min (sl - f) q ≤ sl - f := Nat.min_le_left _ _
  have hm2 : Nat.min (sl - f) q ≤ q := Nat.min_le_right _ _
  have hm3 : Nat.min (sl - f) q = sl - f ∨ Nat.min (sl - f) q = q := by rcases Nat.le_total (sl - f) q with h | h; (· exact Or.inl (Nat.min_eq_left h)); exact Or.inr (Nat.min_eq_right h)
  generalize Nat.min (sl - f) q = r at *
  have hlp : ((Ls.drop f).take r).length = r := len_part (by omega)
  have hL2 : L2.length = L.length := by rw [h2]; exact mid_len (by omega)
  rw [h3, getD_mid (by simp; omega), List.length_replicate, h2, getD_mid (by omega), hlp]
  by_cases h9 : o ≤ j ∧ j < o + q
  · rw [if_pos h9]
    by_cases h8 : j < o + r
    · rw [if_pos h8, if_neg (by omega), if_pos h8, getD_part (by omega)]
    · rw [if_neg h8, if_pos (by omega), getD_repI]
      rw [List.getD_eq_getElem?_getD, List.getElem?_eq_none (by omega)]; rfl
  · rw [if_neg h9]
    by_cases h8 : j < o
    · rw [if_pos (by omega), if_pos h8]
    · rw [if_neg (by omega), if_neg (by omega), if_neg (by omega), if_neg (by omega)]
theorem wr_b {L L3 Ls : List Int} {o f q sl z : Nat} (hl : Ls.length = sl) (hf : ¬ f < sl) (ho : o + q ≤ L.length) (h3 : L3 = mid L o (List.replicate z 0)) (hz : z = q) (j : Nat) : L3.getD j 0 = if o ≤ j ∧ j < o + q then Ls.getD (f + (j - o)) 0 else L.getD j 0 := by
  subst hz
  rw [h3, getD_mid (by simp; omega), List.length_replicate]
  by_cases h9 : o ≤ j ∧ j < o + z
  · rw [if_pos h9, if_neg (by omega), if_pos (by omega), getD_repI]
    rw [List.getD_eq_getElem?_getD, List.getElem?_eq_none (by omega)]; rfl
  · rw [if_neg h9]
    by_cases h8 : j < o
    · rw [if_pos h8]
    · rw [if_neg h8, if_neg (by omega)]

set_option maxRecDepth 10000 in
theorem memWrite_ex [Om] (C : Nat) (c : Array Value) (v : V) (B : VB) (m : Mc) (k lo n : Nat) (off q b f : Nat) (src : SV) (w : World) (hM : MS w C c v B m) (L : List Int) (hBX : BufX w m.buf L) (hT : MemT m k lo n) (hb : m.buf.1 = some ⟨b, 0, none⟩) (hq : 0 < q) (hqn : off + q ≤ n) (Ls : List Int) (hsc : SC w .u8 1 src Ls) (hLs : By8 Ls) (hs1 : src.2.1 ≤ src.2.2) (hs2 : src.2.1 ≤ 1000000) : Ret Hvac.prog 234 #[.pointer (some ⟨C, 1, none⟩), .int .u32 off, .slice src.1 src.2.1 src.2.2, .int .u64 f, .int .u32 q] w fun u w' => u = .bool true ∧ MRet w C B m w' v m ∧ ∃ L', BufX w' m.buf L' ∧ L'.length = L.length ∧ ∀ k, L'.getD k 0 = if lo + off ≤ k ∧ k < lo + off + q then Ls.getD (f + (k - (lo + off))) 0 else L.getD k 0 := by
  obtain ⟨hcp, hr, hL, hle⟩ := hBX.hb hb
  have h1 := hT.le
  have h2 := hT.sz
  have hLsl : Ls.length = src.2.1 := by have := hsc.1; omega
  refine Ret_of_W Hvac.func234 rfl rfl ?_
  refine W_seq ?_
  refine W_region rfl ?_
  refine WO_p (PS_assign_bool rfl) ?_
  refine WO_nil ?_
  refine thn_normal ?_
  refine W_seq ?_
  refine W_region rfl ?_
  refine WO_p (PS_move_ptr rfl) ?_
  refine WO_p (PS_move_int rfl) ?_
  refine WO_p (PS_move_int rfl) ?_
  refine WO_call Hvac.call167 (by rfl) (Ret.mono (memPart_spec C c v B m k lo n off q b _ hM hT hb hq hqn) ?_)
  rintro _ w1 ⟨hE1, rfl⟩
  have hr1 := Hb.ext hE1 hr
  have hsc1 := hsc.ext hE1
  have hM1 := hM.ext hE1
  refine WO_p (PS_move_tuple rfl) ?_
  refine WO_p (PS_extract_slice rfl rfl) ?_
  refine WO_p (PS_extract_bool rfl rfl) ?_
  refine WO_p (PS_assign_slice rfl) ?_
  refine WO_p (PS_assign_bool rfl) ?_
  refine WO_nil ?_
  refine thn_normal ?_
  refine W_seq ?_
  refine W_seq ?_
  refine W_region rfl ?_
  refine WO_p (PS_move_bool rfl) ?_
  refine WO_p (PS_not rfl) ?_
  refine WO_nil ?_
  refine thn_normal ?_
  refine W_if rfl (fun hb4 => ?_) (fun hb4 => ?_)
  · have hb4p := hb4.h; try simp only [al_ete, al_dfn, Bool.not_eq_true', Bool.not_eq_false', al_ne, Bool.not_not, al_nn] at hb4p
    simp at hb4p --END
  · have hb4p := hb4.h; try simp only [al_ete, al_dfn, Bool.not_eq_true', Bool.not_eq_false', al_ne, Bool.not_not, al_nn] at hb4p
    refine W_skip ?_
    refine thn_normal ?_
    refine W_seq ?_
    refine W_region rfl ?_
    refine WO_p (PS_assign_int rfl) ?_
    refine WO_nil ?_
    refine thn_normal ?_
    refine W_seq ?_
    refine W_seq ?_
    refine W_region rfl ?_
    refine WO_p (PS_move_int rfl) ?_
    refine WO_p (PS_move_slice rfl) ?_
    refine WO_p (PS_lenS Hvac.runUnderlying32 rfl) ?_
    refine WO_p (PS_conv_u64n Hvac.runUnderlying3 Hvac.runUnderlying26 rfl (by omega) (by omega)) ?_
    refine WO_p (PS_lss rfl rfl) ?_
    refine WO_nil ?_
    refine thn_normal ?_
    refine W_if rfl (fun hb6 => ?_) (fun hb6 => ?_)
    · have hb6p := hb6.h; try simp only [al_ete, al_dfn, Bool.not_eq_true', Bool.not_eq_false', al_ne, Bool.not_not, al_nn] at hb6p
      have hfl : f < src.2.1 := by omega
      refine W_region rfl ?_
      refine WO_p (PS_move_slice rfl) ?_
      refine WO_p (PS_move_slice rfl) ?_
      refine WO_p (PS_move_int rfl) ?_
      refine WO_p (PS_slG_l Hvac.runUnderlying32 Hvac.sizeOf5 rfl rfl (by omega) (by omega)) ?_
      rw [Int.toNat_natCast f]
      refine WO_copyTX (b2 := 0) (b := b) (o := lo + off) Hvac.runUnderlying32 Hvac.sizeOf5 rfl rfl (fun _ => rfl) hr1 (by omega) (hsc1.tail f hfl hs1) (fun z hz => hLs z (List.mem_of_mem_drop hz)) ?_
      intro w2 L2 hwA hLA
      have hrA := hwA.hb
      have hm0 : Nat.min (src.2.1 - f) q ≤ q := Nat.min_le_right _ _
      refine WO_p (PS_assign_int rfl) ?_
      refine WO_nil ?_
      refine thn_normal ?_
      refine W_seq ?_
      refine W_region rfl ?_
      refine WO_p (PS_move_slice rfl) ?_
      refine WO_p (PS_move_int rfl) ?_
      first
      | refine WO_p (PS_slG_l (l := ((Nat.min (src.2.1 - f) q : Nat) : Int)) Hvac.runUnderlying32 Hvac.sizeOf5 rfl rfl (by omega) (by omega)) ?_
      | refine WO_p (PS_slG_l Hvac.runUnderlying32 Hvac.sizeOf5 rfl rfl (by omega) (by omega)) ?_
      have hl2 := hwA.len
      first
      | refine WO_clearTX (b := b) (o := lo + off + Nat.min (src.2.1 - f) q) Hvac.runUnderlying32 Hvac.zeroValue5 rfl (fun h0 => by rw [min_cast] at h0 ⊢; rw [slp'_some (by omega), Nat.mul_one]) hrA (by rw [min_cast]; omega) ?_
      | refine WO_clearTX (b := b) (o := lo + off) Hvac.runUnderlying32 Hvac.zeroValue5 rfl (fun h0 => by rw [slp'_some (by simp at h0 ⊢; omega)]; simp) hrA (by simp; omega) ?_
      intro w3 L3 hwB hLB
      have hBX3 := BufT.x (hBX.ext hE1) hb (hwA.trans hwB)
      have hl3 := (hwA.trans hwB).len
      obtain ⟨hM2, hS2⟩ := hM1.turn hb hcp hr1 hle hL (hwA.trans hwB)
      refine WO_nil ?_
      refine thn_normal ?_
      refine W_seq ?_
      refine W_region rfl ?_
      refine WO_p (PS_assign_bool rfl) ?_
      refine WO_nil ?_
      refine thn_normal ?_
      refine W_ret ?_
      refine bodyQ_ret1 Hvac.results234 rfl (.bool _) rfl ?_
      first
      | exact ⟨rfl, ⟨_, _, hM2, (MStep.ext hE1).trans hS2⟩, L3, hBX3, hl3, fun j => wr_a hLsl (by omega) (by omega) hLA (by rw [min_cast] at hLB; exact hLB) j⟩
      | exact ⟨rfl, ⟨_, _, hM2, (MStep.ext hE1).trans hS2⟩, L3, hBX3, hl3, fun j => wr_b (q := q) hLsl (by omega) (by omega) hLB (by simp) j⟩
    · have hb6p := hb6.h; try simp only [al_ete, al_dfn, Bool.not_eq_true', Bool.not_eq_false', al_ne, Bool.not_not, al_nn] at hb6p
      have hfl : ¬ f < src.2.1 := by omega
      have hm0 : (0 : Nat) ≤ q := by omega
      have hwA : BufT b 5 L w1 w1 L := BufT.refl hr1
      have hrA := hr1
      have hLA : L = mid L (lo + off) [] := (mid_nil _ _).symm
      refine W_skip ?_
      refine thn_normal ?_
      refine W_seq ?_
      refine W_region rfl ?_
      refine WO_p (PS_move_slice rfl) ?_
      refine WO_p (PS_move_int rfl) ?_
      first
      | refine WO_p (PS_slG_l (l := ((Nat.min (src.2.1 - f) q : Nat) : Int)) Hvac.runUnderlying32 Hvac.sizeOf5 rfl rfl (by omega) (by omega)) ?_
      | refine WO_p (PS_slG_l Hvac.runUnderlying32 Hvac.sizeOf5 rfl rfl (by omega) (by omega)) ?_
      have hl2 := hwA.len
      first
      | refine WO_clearTX (b := b) (o := lo + off + Nat.min (src.2.1 - f) q) Hvac.runUnderlying32 Hvac.zeroValue5 rfl (fun h0 => by rw [min_cast] at h0 ⊢; rw [slp'_some (by omega), Nat.mul_one]) hrA (by rw [min_cast]; omega) ?_
      | refine WO_clearTX (b := b) (o := lo + off) Hvac.runUnderlying32 Hvac.zeroValue5 rfl (fun h0 => by rw [slp'_some (by simp at h0 ⊢; omega)]; simp) hrA (by simp; omega) ?_
      intro w3 L3 hwB hLB
      have hBX3 := BufT.x (hBX.ext hE1) hb (hwA.trans hwB)
      have hl3 := (hwA.trans hwB).len
      obtain ⟨hM2, hS2⟩ := hM1.turn hb hcp hr1 hle hL (hwA.trans hwB)
      refine WO_nil ?_
      refine thn_normal ?_
      refine W_seq ?_
      refine W_region rfl ?_
      refine WO_p (PS_assign_bool rfl) ?_
      refine WO_nil ?_
      refine thn_normal ?_
      refine W_ret ?_
      refine bodyQ_ret1 Hvac.results234 rfl (.bool _) rfl ?_
      first
      | exact ⟨rfl, ⟨_, _, hM2, (MStep.ext hE1).trans hS2⟩, L3, hBX3, hl3, fun j => wr_a hLsl (by omega) (by omega) hLA (by rw [min_cast] at hLB; exact hLB) j⟩
      | exact ⟨rfl, ⟨_, _, hM2, (MStep.ext hE1).trans hS2⟩, L3, hBX3, hl3, fun j => wr_b (q := q) hLsl (by omega) (by omega) hLB (by simp) j⟩

set_option maxRecDepth 10000 in
theorem memGrow_exS [Om] (C : Nat) (c : Array Value) (v : V) (B : VB) (m : Mc) (k lo n : Nat) (nw b : Nat) (w : World) (hM : MS w C c v B m) (L : List Int) (hBX : BufX w m.buf L) (hT : MemT m k lo n) (hnw : nw ≤ 22415) (hgt : n < 32 * nw) (hb : m.buf.1 = some ⟨b, 0, none⟩) : Ret Hvac.prog 246 #[.pointer (some ⟨C, 1, none⟩), .int .u32 nw] w fun u w' => u = .bool true ∧ ∃ (s' : SV) (L' : List Int), s'.2.1 = max m.buf.2.1 (lo + 32 * nw) ∧ BufX w' s' L' ∧ (∀ k, k < lo + n → L'.getD k 0 = L.getD k 0) ∧ (∀ k, lo + n ≤ k → k < lo + 32 * nw → L'.getD k 0 = 0) ∧ MRet w C B m w' v { m with buf := s', base := m.base.set (k + 1) ((lo + 32 * nw : Nat) : Int) } := by
  have hT0 := hT
  have hblk := hM.vs.blk
  have hcs := hM.sz
  have hc_mtop := hM.rep.mtop
  have hc_buf := hM.rep.buf
  have hmt := hM.ty.mtop
  obtain ⟨ht1, hk6, hlo, hhi, hle, hsz⟩ := hT
  obtain ⟨hchi, hhib⟩ := hM.openB hhi
  rw [ht1] at hc_mtop hmt
  obtain ⟨hcp, hr, hL, hlL⟩ := hBX.hb hb
  have hcap := hM.buf.cap
  refine Ret_of_W Hvac.func246 rfl rfl ?_
  refine W_seq ?_
  refine W_region rfl ?_
  refine WO_p (PS_assign_bool rfl) ?_
  refine WO_nil ?_
  refine thn_normal ?_
  refine W_seq ?_
  refine W_region rfl ?_
  refine WO_p (PS_move_ptr rfl) ?_
  refine WO_call Hvac.call168 (by rfl) (Ret.mono (memTop_spec C c v B m k lo n _ hM hT0) ?_)
  rintro _ w1 ⟨hE1, p, rfl, hp⟩
  have hM1 := hM.ext hE1
  have hblk1 := hM1.vs.blk
  have hr1 := Hb.ext hE1 hr
  refine WO_p (PS_move_tuple rfl) ?_
  refine WO_p (PS_extract_slice rfl rfl) ?_
  refine WO_p (PS_extract_bool rfl rfl) ?_
  refine WO_p (PS_assign_slice rfl) ?_
  refine WO_p (PS_assign_bool rfl) ?_
  refine WO_nil ?_
  refine thn_normal ?_
  refine W_seq ?_
  refine W_seq ?_
  refine W_region rfl ?_
  refine WO_p (PS_move_bool rfl) ?_
  refine WO_p (PS_not rfl) ?_
  refine WO_p (PS_move_bool rfl) ?_
  refine WO_if (t := 17) rfl (fun hb4 => ?_) (fun hb4 => ?_)
  · have hb4p := hb4.h; try simp only [al_ete, al_dfn, Bool.not_eq_true', Bool.not_eq_false', al_ne, Bool.not_not, al_nn] at hb4p
    simp at hb4p --END
  · have hb4p := hb4.h; try simp only [al_ete, al_dfn, Bool.not_eq_true', Bool.not_eq_false', al_ne, Bool.not_not, al_nn] at hb4p
    refine WO_guardT rfl rfl hb4.h ?_
    refine WO_p (PS_move_int rfl) ?_
    refine WO_guardT rfl rfl hb4.h ?_
    refine WO_p (PS_gtr rfl rfl) ?_
    refine WO_p (PS_pickF rfl hb4.h rfl) ?_
    refine WO_nil ?_
    refine thn_normal ?_
    refine W_if rfl (fun hb6 => ?_) (fun hb6 => ?_)
    · have hb6p := hb6.h; try simp only [al_ete, al_dfn, Bool.not_eq_true', Bool.not_eq_false', al_ne, Bool.not_not, al_nn] at hb6p
      omega --END
    · have hb6p := hb6.h; try simp only [al_ete, al_dfn, Bool.not_eq_true', Bool.not_eq_false', al_ne, Bool.not_not, al_nn] at hb6p
      refine W_skip ?_
      refine thn_normal ?_
      refine W_seq ?_
      refine W_seq ?_
      refine W_region rfl ?_
      refine WO_p (PS_move_int rfl) ?_
      refine WO_p (PS_mul_u32n rfl rfl (by omega) (by omega)) ?_
      refine WO_p (PS_move_slice rfl) ?_
      refine WO_p (PS_lenS Hvac.runUnderlying32 rfl) ?_
      refine WO_p (PS_conv_u32n Hvac.runUnderlying3 Hvac.runUnderlying56 rfl (by omega) (by omega)) ?_
      refine WO_p (PS_leq rfl rfl) ?_
      refine WO_nil ?_
      refine thn_normal ?_
      refine W_if rfl (fun hb8 => ?_) (fun hb8 => ?_)
      · have hb8p := hb8.h; try simp only [al_ete, al_dfn, Bool.not_eq_true', Bool.not_eq_false', al_ne, Bool.not_not, al_nn] at hb8p
        omega --END
      · have hb8p := hb8.h; try simp only [al_ete, al_dfn, Bool.not_eq_true', Bool.not_eq_false', al_ne, Bool.not_not, al_nn] at hb8p
        refine W_skip ?_
        refine thn_normal ?_
        refine W_seq ?_
        refine W_region rfl ?_
        refine WO_p (PS_move_int rfl) ?_
        refine WO_p (PS_mul_u32n rfl rfl (by omega) (by omega)) ?_
        refine WO_p (PS_conv_i64n Hvac.runUnderlying56 Hvac.runUnderlying3 rfl (by omega) (by omega)) ?_
        refine WO_p (PS_move_slice rfl) ?_
        refine WO_p (PS_lenS Hvac.runUnderlying32 rfl) ?_
        refine WO_p (PS_sub_i64n rfl rfl (by omega) (by omega)) ?_
        refine WO_p (PS_assign_int rfl) ?_
        refine WO_nil ?_
        refine thn_normal ?_
        refine W_seq ?_
        refine W_drawE [false, false, false, false, false, false, false, false, false, false] hmix (by kernel_rfl) rfl ?_
        refine WH_p (PS_move_ptr rfl) rfl ?_
        refine WH_p (PS_move_ptr rfl) rfl ?_
        refine WH_p (PS_nilCheck rfl) rfl ?_
        refine WH_p (PS_fieldAddr 9 Hvac.runUnderlying59 rfl Hvac.sizeOf5 rfl rfl) rfl ?_
        refine WH_load (.int _ _) Hvac.isAgg5 rfl (Hb.h (by repeat (first | assumption | exact Hb.newY _ _ | refine Hb.alloc ?_ | refine Hb.drew ?_ | refine Hb.ext (by assumption) ?_ | exact Hb.setSameL (by first | omega | (simp only [size_alloc, size_setB, size_drew]; omega)) | exact Hb.setSame (by assumption) | refine Hb.set (by first | omega | (simp only [size_alloc, size_setB, size_drew]; omega)) ?_ ))) (Ce.h (by first | assumption | exact ⟨rfl⟩)) ?_
        refine WH_p (PS_nilCheck rfl) rfl ?_
        refine WH_p (PS_fieldAddr 1 Hvac.runUnderlying59 rfl Hvac.sizeOf57 rfl rfl) rfl ?_
        refine WH_p (PS_indexA Hvac.runUnderlying57 Hvac.sizeOf56 rfl rfl (by omega) (by omega)) rfl ?_
        rw [show ((k : Int) + 1).toNat = k + 1 by omega]
        refine WH_load (.int _ _) Hvac.isAgg56 rfl (Hb.h (by repeat (first | assumption | exact Hb.newY _ _ | refine Hb.alloc ?_ | refine Hb.drew ?_ | refine Hb.ext (by assumption) ?_ | exact Hb.setSameL (by first | omega | (simp only [size_alloc, size_setB, size_drew]; omega)) | exact Hb.setSame (by assumption) | refine Hb.set (by first | omega | (simp only [size_alloc, size_setB, size_drew]; omega)) ?_ ))) (Ce.h (by first | assumption | exact ⟨rfl⟩)) ?_
        refine WH_p (PS_assign_int rfl) rfl ?_
        refine WH_nil ?_
        refine thn_normal ?_
        refine W_seq ?_
        refine W_region rfl ?_
        refine WO_p (PS_move_ptr rfl) ?_
        refine WO_p (PS_nilCheck rfl) ?_
        refine WO_p (PS_fieldAddr 0 Hvac.runUnderlying59 rfl Hvac.sizeOf32 rfl rfl) ?_
        refine WO_load (.slice _ _ _) Hvac.isAgg32 rfl (Hb.h (by repeat (first | assumption | exact Hb.newY _ _ | refine Hb.alloc ?_ | refine Hb.drew ?_ | refine Hb.ext (by assumption) ?_ | exact Hb.setSameL (by first | omega | (simp only [size_alloc, size_setB, size_drew]; omega)) | exact Hb.setSame (by assumption) | refine Hb.set (by first | omega | (simp only [size_alloc, size_setB, size_drew]; omega)) ?_ ))) (Ce.h (by first | assumption | exact ⟨rfl⟩)) ?_
        refine WO_p (PS_move_int rfl) ?_
        refine WO_p (PS_slG_l Hvac.runUnderlying32 Hvac.sizeOf5 rfl rfl (by omega) (by omega)) ?_
        rw [Int.toNat_natCast (lo + n)]
        refine WO_p (PS_assign_slice rfl) ?_
        refine WO_nil ?_
        refine thn_normal ?_
        refine W_seq ?_
        refine W_seq ?_
        refine W_region rfl ?_
        refine WO_p (PS_move_slice rfl) ?_
        refine WO_p (PS_lenS Hvac.runUnderlying32 rfl) ?_
        refine WO_p (PS_move_int rfl) ?_
        refine WO_p (PS_geq rfl rfl) ?_
        refine WO_nil ?_
        refine thn_normal ?_
        refine W_if rfl (fun hb10 => ?_) (fun hb10 => ?_)
        · have hb10p := hb10.h; try simp only [al_ete, al_dfn, Bool.not_eq_true', Bool.not_eq_false', al_ne, Bool.not_not, al_nn] at hb10p
          refine W_region rfl ?_
          refine WO_p (PS_move_slice rfl) ?_
          refine WO_p (PS_move_int rfl) ?_
          refine WO_p (PS_slG_h Hvac.runUnderlying32 Hvac.sizeOf5 rfl rfl (by omega) (by omega)) ?_
          refine WO_clearTX (b := b) (o := lo + n) Hvac.runUnderlying32 Hvac.zeroValue5 rfl (fun h0 => by rw [hb, slp'_some (by omega), slp'_some (by omega)]; simp) (Hb.drew hr1) (by omega) ?_
          intro w2 L2 hwA hLA
          have hBX2 := BufT.x ((hBX.ext hE1).ext (Ext.drew (Ext.refl w1))) hb hwA
          obtain ⟨hME, hSE⟩ := (hM1.ext (Ext.drew (Ext.refl w1))).turn hb hcp (Hb.drew hr1) hlL hL hwA
          replace hSE := ((MStep.ext hE1).trans (MStep.ext (Ext.drew (Ext.refl w1)))).trans hSE
          have hbl : m.buf.2.1 = max m.buf.2.1 (lo + 32 * nw) := by omega
          have hblkE := hME.vs.blk
          have hcsE := hME.sz
          have hc_mtopE := hME.rep.mtop
          replace hc_mtopE : Ce _ 10 (.int .u8 m.mtop) := hc_mtopE
          rw [ht1] at hc_mtopE
          have hhiE : m.base[k + 1]? = some ((lo + n : Nat) : Int) := hhi
          refine WO_nil ?_
          refine thn_normal ?_
          refine W_seq ?_
          refine W_drawE [false, false, false, false, false, false, false, false, false, false, false, false, false] hmix (by kernel_rfl) rfl ?_
          refine WH_p (PS_move_ptr rfl) rfl ?_
          refine WH_p (PS_move_ptr rfl) rfl ?_
          refine WH_p (PS_nilCheck rfl) rfl ?_
          refine WH_p (PS_fieldAddr 9 Hvac.runUnderlying59 rfl Hvac.sizeOf5 rfl rfl) rfl ?_
          refine WH_load (.int _ _) Hvac.isAgg5 rfl (Hb.h (by repeat (first | assumption | exact Hb.newY _ _ | refine Hb.alloc ?_ | refine Hb.drew ?_ | refine Hb.ext (by assumption) ?_ | exact Hb.setSameL (by first | omega | (simp only [size_alloc, size_setB, size_drew]; omega)) | exact Hb.setSame (by assumption) | refine Hb.set (by first | omega | (simp only [size_alloc, size_setB, size_drew]; omega)) ?_ ))) (Ce.h (by first | assumption | exact ⟨rfl⟩)) ?_
          refine WH_p (PS_move_int rfl) rfl ?_
          refine WH_p (PS_move_int rfl) rfl ?_
          refine WH_p (PS_conv_u32n Hvac.runUnderlying3 Hvac.runUnderlying56 rfl (by omega) (by omega)) rfl ?_
          refine WH_p (PS_add_u32n rfl rfl (by omega) (by omega)) rfl ?_
          rw [show (((lo + n : Nat) : Int) + (32 * (nw : Int) - (n : Int))) = ((lo + 32 * nw : Nat) : Int) by omega]
          refine WH_p (PS_nilCheck rfl) rfl ?_
          refine WH_p (PS_fieldAddr 1 Hvac.runUnderlying59 rfl Hvac.sizeOf57 rfl rfl) rfl ?_
          refine WH_p (PS_indexA Hvac.runUnderlying57 Hvac.sizeOf56 rfl rfl (by omega) (by omega)) rfl ?_
          rw [show ((k : Int) + 1).toNat = k + 1 by omega]
          refine WH_store1 Hvac.sizeOf56 rfl (v := (.int _ _)) rfl (Hb.h (by repeat (first | assumption | exact Hb.newY _ _ | refine Hb.alloc ?_ | refine Hb.drew ?_ | refine Hb.ext (by assumption) ?_ | exact Hb.setSameL (by first | omega | (simp only [size_alloc, size_setB, size_drew]; omega)) | exact Hb.setSame (by assumption) | refine Hb.set (by first | omega | (simp only [size_alloc, size_setB, size_drew]; omega)) ?_ ))) rfl (by first | omega | assumption | rfl | decide | exact Nat.le_refl _ | (simp only [size_ic, Value.cells]; omega) | (simp; omega) | simp) rfl (fun h => by cases h) ?_
          refine WH_nil ?_
          refine thn_normal ?_
          refine W_seq ?_
          obtain ⟨hMF, hSF⟩ := (hME.ext (Ext.drew (Ext.refl _))).put_base hhiE ((lo + 32 * nw : Nat) : Int) (by omega)
          replace hSF := (hSE.trans (MStep.ext (Ext.drew (Ext.refl _)))).trans hSF
          refine W_region rfl ?_
          refine WO_p (PS_assign_bool rfl) ?_
          refine WO_nil ?_
          refine thn_normal ?_
          refine W_ret ?_
          refine bodyQ_ret1 Hvac.results246 rfl (.bool _) rfl ?_
          first
          | exact ⟨rfl, s', L3, hbl, hBX3.kt ((KT.setB hC3 (by decide)).trans ((KT.ext (Ext.drew (Ext.refl _))).trans (KT.setB hME.vs.blk.drew (by decide)))), fun j hj => by rw [hl3 j (by omega), hLA, getD_mid (by simp; omega), if_pos hj], fun j h1 h2 => by rcases Nat.lt_or_ge j m.buf.2.1 with h9 | h9; (· rw [hl3 j h9, hLA, getD_mid (by simp; omega), if_neg (by omega), if_pos (by simp; omega)]; exact getD_repI _ _); exact hz3 j h9 (by omega), _, _, hMF, hSF⟩
          | exact ⟨rfl, m.buf, L2, hbl, hBX2.kt ((KT.ext (Ext.drew (Ext.refl _))).trans (KT.setB hME.vs.blk.drew (by decide))), fun j hj => by rw [hLA, getD_mid (by simp; omega), if_pos hj], fun j h1 h2 => by rw [hLA, getD_mid (by simp; omega), if_neg (by omega), if_pos (by simp; omega)]; exact getD_repI _ _, _, _, hMF, hSF⟩
        · have hb10p := hb10.h; try simp only [al_ete, al_dfn, Bool.not_eq_true', Bool.not_eq_false', al_ne, Bool.not_not, al_nn] at hb10p
          refine W_seq ?_
          refine W_region rfl ?_
          refine WO_p (PS_move_slice rfl) ?_
          refine WO_clearTX (b := b) (o := lo + n) Hvac.runUnderlying32 Hvac.zeroValue5 rfl (fun h0 => by rw [hb, slp'_some (by omega)]; simp) (Hb.drew hr1) (by omega) ?_
          intro w2 L2 hwA hLA
          have hBX2 := BufT.x ((hBX.ext hE1).ext (Ext.drew (Ext.refl w1))) hb hwA
          obtain ⟨hM2, hS2⟩ := (hM1.ext (Ext.drew (Ext.refl w1))).turn hb hcp (Hb.drew hr1) hlL hL hwA
          have hS20 := ((MStep.ext hE1).trans (MStep.ext (Ext.drew (Ext.refl w1)))).trans hS2
          have hblk2 := hM2.vs.blk
          obtain ⟨s', w3, L3, hrun, hBX3, hbl, hkp, hsm, hl3, hz3⟩ := app0_goX hBX2 (n := lo + 32 * nw - m.buf.2.1) (by omega) (by omega)
          have hbs := hBX3.s
          replace hbl : s'.2.1 = max m.buf.2.1 (lo + 32 * nw) := by omega
          have hC3 : Hb w3 C (.cells c 87 (0, 0)) := KT.keepO hkp (fun x hx => by obtain ⟨a, ha, hab⟩ := hx; rw [hb] at ha; injection ha with ha; subst ha; exact ⟨ic .u8 L2, (0, 0), by rw [← hab]; exact hwA.hb⟩) (by decide) _ _ _ hblk2
          refine WO_nil ?_
          refine thn_normal ?_
          refine W_region rfl ?_
          refine WO_p (PS_move_ptr rfl) ?_
          refine WO_p (PS_move_ptr rfl) ?_
          refine WO_p (PS_nilCheck rfl) ?_
          refine WO_p (PS_fieldAddr 0 Hvac.runUnderlying59 rfl Hvac.sizeOf32 rfl rfl) ?_
          refine WO_load (.slice _ _ _) Hvac.isAgg32 rfl (Hb.h (by repeat (first | assumption | exact Hb.newY _ _ | refine Hb.alloc ?_ | refine Hb.drew ?_ | refine Hb.ext (by assumption) ?_ | exact Hb.setSameL (by first | omega | (simp only [size_alloc, size_setB, size_drew]; omega)) | exact Hb.setSame (by assumption) | refine Hb.set (by first | omega | (simp only [size_alloc, size_setB, size_drew]; omega)) ?_ ))) (Ce.h (by first | assumption | exact ⟨rfl⟩)) ?_
          refine WO_p (PS_move_int rfl) ?_
          refine WO_p (PS_move_slice rfl) ?_
          refine WO_p (PS_lenS Hvac.runUnderlying32 rfl) ?_
          refine WO_p (PS_sub_i64n rfl rfl (by omega) (by omega)) ?_
          rw [show (32 * (nw : Int) - (n : Int) - ((m.buf.2.1 - (lo + n) : Nat) : Int)) = ((lo + 32 * nw - m.buf.2.1 : Nat) : Int) by omega]
          refine WO_append2 rfl rfl hrun ?_
          refine WO_p (PS_nilCheck rfl) ?_
          refine WO_p (PS_fieldAddr 0 Hvac.runUnderlying59 rfl Hvac.sizeOf32 rfl rfl) ?_
          refine WO_store1 Hvac.sizeOf32 rfl (v := .slice _ _ _) rfl (Hb.h hC3) rfl (by rw [hcs]; decide) rfl ?_
          obtain ⟨hME, hSE⟩ := hM2.newBuf hbs hkp hsm
          replace hSE := hS20.trans hSE
          have hblkE := hME.vs.blk
          have hcsE := hME.sz
          have hc_mtopE := hME.rep.mtop
          replace hc_mtopE : Ce _ 10 (.int .u8 m.mtop) := hc_mtopE
          rw [ht1] at hc_mtopE
          have hhiE : m.base[k + 1]? = some ((lo + n : Nat) : Int) := hhi
          refine WO_nil ?_
          refine thn_normal ?_
          refine W_seq ?_
          refine W_drawE [false, false, false, false, false, false, false, false, false, false, false, false, false] hmix (by kernel_rfl) rfl ?_
          refine WH_p (PS_move_ptr rfl) rfl ?_
          refine WH_p (PS_move_ptr rfl) rfl ?_
          refine WH_p (PS_nilCheck rfl) rfl ?_
          refine WH_p (PS_fieldAddr 9 Hvac.runUnderlying59 rfl Hvac.sizeOf5 rfl rfl) rfl ?_
          refine WH_load (.int _ _) Hvac.isAgg5 rfl (Hb.h (by repeat (first | assumption | exact Hb.newY _ _ | refine Hb.alloc ?_ | refine Hb.drew ?_ | refine Hb.ext (by assumption) ?_ | exact Hb.setSameL (by first | omega | (simp only [size_alloc, size_setB, size_drew]; omega)) | exact Hb.setSame (by assumption) | refine Hb.set (by first | omega | (simp only [size_alloc, size_setB, size_drew]; omega)) ?_ ))) (Ce.h (by first | assumption | exact ⟨rfl⟩)) ?_
          refine WH_p (PS_move_int rfl) rfl ?_
          refine WH_p (PS_move_int rfl) rfl ?_
          refine WH_p (PS_conv_u32n Hvac.runUnderlying3 Hvac.runUnderlying56 rfl (by omega) (by omega)) rfl ?_
          refine WH_p (PS_add_u32n rfl rfl (by omega) (by omega)) rfl ?_
          rw [show (((lo + n : Nat) : Int) + (32 * (nw : Int) - (n : Int))) = ((lo + 32 * nw : Nat) : Int) by omega]
          refine WH_p (PS_nilCheck rfl) rfl ?_
          refine WH_p (PS_fieldAddr 1 Hvac.runUnderlying59 rfl Hvac.sizeOf57 rfl rfl) rfl ?_
          refine WH_p (PS_indexA Hvac.runUnderlying57 Hvac.sizeOf56 rfl rfl (by omega) (by omega)) rfl ?_
          rw [show ((k : Int) + 1).toNat = k + 1 by omega]
          refine WH_store1 Hvac.sizeOf56 rfl (v := (.int _ _)) rfl (Hb.h (by repeat (first | assumption | exact Hb.newY _ _ | refine Hb.alloc ?_ | refine Hb.drew ?_ | refine Hb.ext (by assumption) ?_ | exact Hb.setSameL (by first | omega | (simp only [size_alloc, size_setB, size_drew]; omega)) | exact Hb.setSame (by assumption) | refine Hb.set (by first | omega | (simp only [size_alloc, size_setB, size_drew]; omega)) ?_ ))) rfl (by first | omega | assumption | rfl | decide | exact Nat.le_refl _ | (simp only [size_ic, Value.cells]; omega) | (simp; omega) | simp) rfl (fun h => by cases h) ?_
          refine WH_nil ?_
          refine thn_normal ?_
          refine W_seq ?_
          obtain ⟨hMF, hSF⟩ := (hME.ext (Ext.drew (Ext.refl _))).put_base hhiE ((lo + 32 * nw : Nat) : Int) (by omega)
          replace hSF := (hSE.trans (MStep.ext (Ext.drew (Ext.refl _)))).trans hSF
          refine W_region rfl ?_
          refine WO_p (PS_assign_bool rfl) ?_
          refine WO_nil ?_
          refine thn_normal ?_
          refine W_ret ?_
          refine bodyQ_ret1 Hvac.results246 rfl (.bool _) rfl ?_
          first
          | exact ⟨rfl, s', L3, hbl, hBX3.kt ((KT.setB hC3 (by decide)).trans ((KT.ext (Ext.drew (Ext.refl _))).trans (KT.setB hME.vs.blk.drew (by decide)))), fun j hj => by rw [hl3 j (by omega), hLA, getD_mid (by simp; omega), if_pos hj], fun j h1 h2 => by rcases Nat.lt_or_ge j m.buf.2.1 with h9 | h9; (· rw [hl3 j h9, hLA, getD_mid (by simp; omega), if_neg (by omega), if_pos (by simp; omega)]; exact getD_repI _ _); exact hz3 j h9 (by omega), _, _, hMF, hSF⟩
          | exact ⟨rfl, m.buf, L2, hbl, hBX2.kt ((KT.ext (Ext.drew (Ext.refl _))).trans (KT.setB hME.vs.blk.drew (by decide))), fun j hj => by rw [hLA, getD_mid (by simp; omega), if_pos hj], fun j h1 h2 => by rw [hLA, getD_mid (by simp; omega), if_neg (by omega), if_pos (by simp; omega)]; exact getD_repI _ _, _, _, hMF, hSF⟩

set_option maxRecDepth 10000 in
theorem memGrow_exN [Om] (C : Nat) (c : Array Value) (v : V) (B : VB) (m : Mc) (k lo n : Nat) (nw : Nat) (w : World) (hM : MS w C c v B m) (L : List Int) (hBX : BufX w m.buf L) (hT : MemT m k lo n) (hnw : nw ≤ 22415) (hgt : n < 32 * nw) (hb : m.buf = (none, 0, 0)) : Ret Hvac.prog 246 #[.pointer (some ⟨C, 1, none⟩), .int .u32 nw] w fun u w' => u = .bool true ∧ ∃ (s' : SV) (L' : List Int), s'.2.1 = max m.buf.2.1 (lo + 32 * nw) ∧ BufX w' s' L' ∧ (∀ k, k < lo + n → L'.getD k 0 = L.getD k 0) ∧ (∀ k, lo + n ≤ k → k < lo + 32 * nw → L'.getD k 0 = 0) ∧ MRet w C B m w' v { m with buf := s', base := m.base.set (k + 1) ((lo + 32 * nw : Nat) : Int) } := by
  have hT0 := hT
  have hblk := hM.vs.blk
  have hcs := hM.sz
  have hc_mtop := hM.rep.mtop
  have hc_buf := hM.rep.buf
  have hmt := hM.ty.mtop
  obtain ⟨ht1, hk6, hlo, hhi, hle, hsz⟩ := hT
  obtain ⟨hchi, hhib⟩ := hM.openB hhi
  rw [ht1] at hc_mtop hmt
  have hb1 : m.buf.1 = none := by rw [hb]
  have hb2 : m.buf.2.1 = 0 := by rw [hb]
  have hb3 : m.buf.2.2 = 0 := by rw [hb]
  obtain rfl : n = 0 := by omega
  obtain rfl : lo = 0 := by omega
  rw [hb1, hb2, hb3] at hc_buf
  refine Ret_of_W Hvac.func246 rfl rfl ?_
  refine W_seq ?_
  refine W_region rfl ?_
  refine WO_p (PS_assign_bool rfl) ?_
  refine WO_nil ?_
  refine thn_normal ?_
  refine W_seq ?_
  refine W_region rfl ?_
  refine WO_p (PS_move_ptr rfl) ?_
  refine WO_call Hvac.call168 (by rfl) (Ret.mono (memTop_spec C c v B m k 0 0 _ hM hT0) ?_)
  rintro _ w1 ⟨hE1, p, rfl, hp⟩
  have hM1 := hM.ext hE1
  have hblk1 := hM1.vs.blk
  refine WO_p (PS_move_tuple rfl) ?_
  refine WO_p (PS_extract_slice rfl rfl) ?_
  refine WO_p (PS_extract_bool rfl rfl) ?_
  refine WO_p (PS_assign_slice rfl) ?_
  refine WO_p (PS_assign_bool rfl) ?_
  refine WO_nil ?_
  refine thn_normal ?_
  refine W_seq ?_
  refine W_seq ?_
  refine W_region rfl ?_
  refine WO_p (PS_move_bool rfl) ?_
  refine WO_p (PS_not rfl) ?_
  refine WO_p (PS_move_bool rfl) ?_
  refine WO_if (t := 17) rfl (fun hb4 => ?_) (fun hb4 => ?_)
  · have hb4p := hb4.h; try simp only [al_ete, al_dfn, Bool.not_eq_true', Bool.not_eq_false', al_ne, Bool.not_not, al_nn] at hb4p
    simp at hb4p --END
  · have hb4p := hb4.h; try simp only [al_ete, al_dfn, Bool.not_eq_true', Bool.not_eq_false', al_ne, Bool.not_not, al_nn] at hb4p
    refine WO_guardT rfl rfl hb4.h ?_
    refine WO_p (PS_move_int rfl) ?_
    refine WO_guardT rfl rfl hb4.h ?_
    refine WO_p (PS_gtr rfl rfl) ?_
    refine WO_p (PS_pickF rfl hb4.h rfl) ?_
    refine WO_nil ?_
    refine thn_normal ?_
    refine W_if rfl (fun hb6 => ?_) (fun hb6 => ?_)
    · have hb6p := hb6.h; try simp only [al_ete, al_dfn, Bool.not_eq_true', Bool.not_eq_false', al_ne, Bool.not_not, al_nn] at hb6p
      omega --END
    · have hb6p := hb6.h; try simp only [al_ete, al_dfn, Bool.not_eq_true', Bool.not_eq_false', al_ne, Bool.not_not, al_nn] at hb6p
      refine W_skip ?_
      refine thn_normal ?_
      refine W_seq ?_
      refine W_seq ?_
      refine W_region rfl ?_
      refine WO_p (PS_move_int rfl) ?_
      refine WO_p (PS_mul_u32n rfl rfl (by omega) (by omega)) ?_
      refine WO_p (PS_move_slice rfl) ?_
      refine WO_p (PS_lenS Hvac.runUnderlying32 rfl) ?_
      refine WO_p (PS_conv_u32n Hvac.runUnderlying3 Hvac.runUnderlying56 rfl (by omega) (by omega)) ?_
      refine WO_p (PS_leq rfl rfl) ?_
      refine WO_nil ?_
      refine thn_normal ?_
      refine W_if rfl (fun hb8 => ?_) (fun hb8 => ?_)
      · have hb8p := hb8.h; try simp only [al_ete, al_dfn, Bool.not_eq_true', Bool.not_eq_false', al_ne, Bool.not_not, al_nn] at hb8p
        omega --END
      · have hb8p := hb8.h; try simp only [al_ete, al_dfn, Bool.not_eq_true', Bool.not_eq_false', al_ne, Bool.not_not, al_nn] at hb8p
        refine W_skip ?_
        refine thn_normal ?_
        refine W_seq ?_
        refine W_region rfl ?_
        refine WO_p (PS_move_int rfl) ?_
        refine WO_p (PS_mul_u32n rfl rfl (by omega) (by omega)) ?_
        refine WO_p (PS_conv_i64n Hvac.runUnderlying56 Hvac.runUnderlying3 rfl (by omega) (by omega)) ?_
        refine WO_p (PS_move_slice rfl) ?_
        refine WO_p (PS_lenS Hvac.runUnderlying32 rfl) ?_
        refine WO_p (PS_sub_i64n rfl rfl (by omega) (by omega)) ?_
        refine WO_p (PS_assign_int rfl) ?_
        refine WO_nil ?_
        refine thn_normal ?_
        refine W_seq ?_
        refine W_drawE [false, false, false, false, false, false, false, false, false, false] hmix (by kernel_rfl) rfl ?_
        refine WH_p (PS_move_ptr rfl) rfl ?_
        refine WH_p (PS_move_ptr rfl) rfl ?_
        refine WH_p (PS_nilCheck rfl) rfl ?_
        refine WH_p (PS_fieldAddr 9 Hvac.runUnderlying59 rfl Hvac.sizeOf5 rfl rfl) rfl ?_
        refine WH_load (.int _ _) Hvac.isAgg5 rfl (Hb.h (by repeat (first | assumption | exact Hb.newY _ _ | refine Hb.alloc ?_ | refine Hb.drew ?_ | refine Hb.ext (by assumption) ?_ | exact Hb.setSameL (by first | omega | (simp only [size_alloc, size_setB, size_drew]; omega)) | exact Hb.setSame (by assumption) | refine Hb.set (by first | omega | (simp only [size_alloc, size_setB, size_drew]; omega)) ?_ ))) (Ce.h (by first | assumption | exact ⟨rfl⟩)) ?_
        refine WH_p (PS_nilCheck rfl) rfl ?_
        refine WH_p (PS_fieldAddr 1 Hvac.runUnderlying59 rfl Hvac.sizeOf57 rfl rfl) rfl ?_
        refine WH_p (PS_indexA Hvac.runUnderlying57 Hvac.sizeOf56 rfl rfl (by omega) (by omega)) rfl ?_
        rw [show ((k : Int) + 1).toNat = k + 1 by omega]
        refine WH_load (.int _ _) Hvac.isAgg56 rfl (Hb.h (by repeat (first | assumption | exact Hb.newY _ _ | refine Hb.alloc ?_ | refine Hb.drew ?_ | refine Hb.ext (by assumption) ?_ | exact Hb.setSameL (by first | omega | (simp only [size_alloc, size_setB, size_drew]; omega)) | exact Hb.setSame (by assumption) | refine Hb.set (by first | omega | (simp only [size_alloc, size_setB, size_drew]; omega)) ?_ ))) (Ce.h (by first | assumption | exact ⟨rfl⟩)) ?_
        refine WH_p (PS_assign_int rfl) rfl ?_
        refine WH_nil ?_
        refine thn_normal ?_
        refine W_seq ?_
        refine W_region rfl ?_
        refine WO_p (PS_move_ptr rfl) ?_
        refine WO_p (PS_nilCheck rfl) ?_
        refine WO_p (PS_fieldAddr 0 Hvac.runUnderlying59 rfl Hvac.sizeOf32 rfl rfl) ?_
        refine WO_load (.slice _ _ _) Hvac.isAgg32 rfl (Hb.h (by repeat (first | assumption | exact Hb.newY _ _ | refine Hb.alloc ?_ | refine Hb.drew ?_ | refine Hb.ext (by assumption) ?_ | exact Hb.setSameL (by first | omega | (simp only [size_alloc, size_setB, size_drew]; omega)) | exact Hb.setSame (by assumption) | refine Hb.set (by first | omega | (simp only [size_alloc, size_setB, size_drew]; omega)) ?_ ))) (Ce.h (by first | assumption | exact ⟨rfl⟩)) ?_
        refine WO_p (PS_move_int rfl) ?_
        refine WO_p (PS_slG_l (a := none) (n := 0) (cp := 0) Hvac.runUnderlying32 Hvac.sizeOf5 rfl rfl (by omega) (by omega)) ?_
        refine WO_p (PS_assign_slice rfl) ?_
        refine WO_nil ?_
        refine thn_normal ?_
        refine W_seq ?_
        refine W_seq ?_
        refine W_region rfl ?_
        refine WO_p (PS_move_slice rfl) ?_
        refine WO_p (PS_lenS Hvac.runUnderlying32 rfl) ?_
        refine WO_p (PS_move_int rfl) ?_
        refine WO_p (PS_geq rfl rfl) ?_
        refine WO_nil ?_
        refine thn_normal ?_
        refine W_if rfl (fun hb10 => ?_) (fun hb10 => ?_)
        · have hb10p := hb10.h; try simp only [al_ete, al_dfn, Bool.not_eq_true', Bool.not_eq_false', al_ne, Bool.not_not, al_nn] at hb10p
          exfalso
          have e0 : (0 : Nat) - ((0 : Nat) : Int).toNat = 0 := rfl
          omega --END
        · have hb10p := hb10.h; try simp only [al_ete, al_dfn, Bool.not_eq_true', Bool.not_eq_false', al_ne, Bool.not_not, al_nn] at hb10p
          refine W_seq ?_
          refine W_region rfl ?_
          refine WO_p (PS_move_slice rfl) ?_
          refine WO_clear0 Hvac.runUnderlying32 rfl ?_
          have hM2 := hM1.ext (Ext.drew (Ext.refl w1))
          have hS20 := (MStep.ext (C := C) (B := B) (m := m) hE1).trans (MStep.ext (Ext.drew (Ext.refl w1)))
          have hblk2 := hM2.vs.blk
          obtain ⟨s', w3, L3, hrun, hBX3, hbl, hkp, hsm, hl3, hz3⟩ := app0_goX ((hBX.ext hE1).ext (Ext.drew (Ext.refl w1))) (n := 32 * nw) (by omega) (by omega)
          have hbs := hBX3.s
          rw [hb1, hb2, hb3] at hrun
          replace hbl : s'.2.1 = max m.buf.2.1 (0 + 32 * nw) := by omega
          have hC3 : Hb w3 C (.cells c 87 (0, 0)) := KT.keepO (T' := 5) hkp (fun x hx => by obtain ⟨a, ha, hab⟩ := hx; rw [hb1] at ha; cases ha) (by decide) _ _ _ hblk2
          refine WO_nil ?_
          refine thn_normal ?_
          refine W_region rfl ?_
          refine WO_p (PS_move_ptr rfl) ?_
          refine WO_p (PS_move_ptr rfl) ?_
          refine WO_p (PS_nilCheck rfl) ?_
          refine WO_p (PS_fieldAddr 0 Hvac.runUnderlying59 rfl Hvac.sizeOf32 rfl rfl) ?_
          refine WO_load (.slice _ _ _) Hvac.isAgg32 rfl (Hb.h (by repeat (first | assumption | exact Hb.newY _ _ | refine Hb.alloc ?_ | refine Hb.drew ?_ | refine Hb.ext (by assumption) ?_ | exact Hb.setSameL (by first | omega | (simp only [size_alloc, size_setB, size_drew]; omega)) | exact Hb.setSame (by assumption) | refine Hb.set (by first | omega | (simp only [size_alloc, size_setB, size_drew]; omega)) ?_ ))) (Ce.h (by first | assumption | exact ⟨rfl⟩)) ?_
          refine WO_p (PS_move_int rfl) ?_
          refine WO_p (PS_move_slice rfl) ?_
          refine WO_p (PS_lenS Hvac.runUnderlying32 rfl) ?_
          refine WO_p (PS_sub_i64n rfl rfl (by first | omega | (show 0 ≤ 32 * (nw : Int) - 0 - 0; omega)) (by first | omega | (show 32 * (nw : Int) - 0 - 0 ≤ _; omega))) ?_
          rw [show (32 * (nw : Int) - ((0 : Nat) : Int) - ((0 - ((0 : Nat) : Int).toNat : Nat) : Int)) = ((32 * nw : Nat) : Int) by simp]
          refine WO_append2 rfl rfl hrun ?_
          refine WO_p (PS_nilCheck rfl) ?_
          refine WO_p (PS_fieldAddr 0 Hvac.runUnderlying59 rfl Hvac.sizeOf32 rfl rfl) ?_
          refine WO_store1 Hvac.sizeOf32 rfl (v := .slice _ _ _) rfl (Hb.h hC3) rfl (by rw [hcs]; decide) rfl ?_
          obtain ⟨hME, hSE⟩ := hM2.newBuf hbs hkp hsm
          replace hSE := hS20.trans hSE
          have hblkE := hME.vs.blk
          have hcsE := hME.sz
          have hc_mtopE := hME.rep.mtop
          replace hc_mtopE : Ce _ 10 (.int .u8 m.mtop) := hc_mtopE
          rw [ht1] at hc_mtopE
          have hhiE : m.base[k + 1]? = some ((0 + 0 : Nat) : Int) := hhi
          refine WO_nil ?_
          refine thn_normal ?_
          refine W_seq ?_
          refine W_drawE [false, false, false, false, false, false, false, false, false, false, false, false, false] hmix (by kernel_rfl) rfl ?_
          refine WH_p (PS_move_ptr rfl) rfl ?_
          refine WH_p (PS_move_ptr rfl) rfl ?_
          refine WH_p (PS_nilCheck rfl) rfl ?_
          refine WH_p (PS_fieldAddr 9 Hvac.runUnderlying59 rfl Hvac.sizeOf5 rfl rfl) rfl ?_
          refine WH_load (.int _ _) Hvac.isAgg5 rfl (Hb.h (by repeat (first | assumption | exact Hb.newY _ _ | refine Hb.alloc ?_ | refine Hb.drew ?_ | refine Hb.ext (by assumption) ?_ | exact Hb.setSameL (by first | omega | (simp only [size_alloc, size_setB, size_drew]; omega)) | exact Hb.setSame (by assumption) | refine Hb.set (by first | omega | (simp only [size_alloc, size_setB, size_drew]; omega)) ?_ ))) (Ce.h (by first | assumption | exact ⟨rfl⟩)) ?_
          refine WH_p (PS_move_int rfl) rfl ?_
          refine WH_p (PS_move_int rfl) rfl ?_
          refine WH_p (PS_conv_u32n Hvac.runUnderlying3 Hvac.runUnderlying56 rfl (by omega) (by omega)) rfl ?_
          refine WH_p (PS_add_u32n rfl rfl (by omega) (by omega)) rfl ?_
          rw [show (((0 + 0 : Nat) : Int) + (32 * (nw : Int) - ((0 : Nat) : Int))) = ((0 + 32 * nw : Nat) : Int) by omega]
          refine WH_p (PS_nilCheck rfl) rfl ?_
          refine WH_p (PS_fieldAddr 1 Hvac.runUnderlying59 rfl Hvac.sizeOf57 rfl rfl) rfl ?_
          refine WH_p (PS_indexA Hvac.runUnderlying57 Hvac.sizeOf56 rfl rfl (by omega) (by omega)) rfl ?_
          rw [show ((k : Int) + 1).toNat = k + 1 by omega]
          refine WH_store1 Hvac.sizeOf56 rfl (v := (.int _ _)) rfl (Hb.h (by repeat (first | assumption | exact Hb.newY _ _ | refine Hb.alloc ?_ | refine Hb.drew ?_ | refine Hb.ext (by assumption) ?_ | exact Hb.setSameL (by first | omega | (simp only [size_alloc, size_setB, size_drew]; omega)) | exact Hb.setSame (by assumption) | refine Hb.set (by first | omega | (simp only [size_alloc, size_setB, size_drew]; omega)) ?_ ))) rfl (by first | omega | assumption | rfl | decide | exact Nat.le_refl _ | (simp only [size_ic, Value.cells]; omega) | (simp; omega) | simp) rfl (fun h => by cases h) ?_
          refine WH_nil ?_
          refine thn_normal ?_
          refine W_seq ?_
          obtain ⟨hMF, hSF⟩ := (hME.ext (Ext.drew (Ext.refl _))).put_base hhiE ((0 + 32 * nw : Nat) : Int) (by omega)
          replace hSF := (hSE.trans (MStep.ext (Ext.drew (Ext.refl _)))).trans hSF
          refine W_region rfl ?_
          refine WO_p (PS_assign_bool rfl) ?_
          refine WO_nil ?_
          refine thn_normal ?_
          refine W_ret ?_
          refine bodyQ_ret1 Hvac.results246 rfl (.bool _) rfl ?_
          exact ⟨rfl, s', L3, hbl, hBX3.kt ((KT.setB hC3 (by decide)).trans ((KT.ext (Ext.drew (Ext.refl _))).trans (KT.setB hME.vs.blk.drew (by decide)))), fun j hj => by omega, fun j h1 h2 => hz3 j (by omega) (by omega), _, _, hMF, hSF⟩

theorem memGrow_ex [Om] (C : Nat) (c : Array Value) (v : V) (B : VB) (m : Mc) (k lo n : Nat) (nw : Nat) (w : World) (hM : MS w C c v B m) (L : List Int) (hBX : BufX w m.buf L) (hT : MemT m k lo n) (hnw : nw ≤ 22415) (hgt : n < 32 * nw) : Ret Hvac.prog 246 #[.pointer (some ⟨C, 1, none⟩), .int .u32 nw] w fun u w' => u = .bool true ∧ ∃ (s' : SV) (L' : List Int), s'.2.1 = max m.buf.2.1 (lo + 32 * nw) ∧ BufX w' s' L' ∧ (∀ k, k < lo + n → L'.getD k 0 = L.getD k 0) ∧ (∀ k, lo + n ≤ k → k < lo + 32 * nw → L'.getD k 0 = 0) ∧ MRet w C B m w' v { m with buf := s', base := m.base.set (k + 1) ((lo + 32 * nw : Nat) : Int) } := by
  rcases hM.buf with hb | ⟨b, L1, hb, _⟩
  · exact memGrow_exN C c v B m k lo n nw w hM L hBX hT hnw hgt hb
  · exact memGrow_exS C c v B m k lo n nw b w hM L hBX hT hnw hgt (by rw [hb])

end Go.Proofs.YgvacwGreat
