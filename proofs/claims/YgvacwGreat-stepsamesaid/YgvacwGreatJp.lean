import Derived.Test.YgvacwGreatJo
namespace Go.Proofs.YgvacwGreat
set_option linter.unusedSimpArgs false
set_option linter.unusedVariables false
theorem lround_congr {A B : Nat → BitVec 64} (h : ∀ j, j < 25 → A j = B j) (r : Nat) {j : Nat} (hj : j < 25) : lround A r j = lround B r j := by
  unfold lround
  rw [lX_congr h (by decide) (by decide), lX_congr h (x := j % 5) (y := j / 5) (by omega) (by omega)]
theorem lrounds_congr {A B : Nat → BitVec 64} (h : ∀ j, j < 25 → A j = B j) : ∀ n j, j < 25 → lrounds A n j = lrounds B n j
  | 0, j, hj => h j hj
  | n + 1, j, hj => lround_congr (fun j hj => lrounds_congr h n j hj) n hj
theorem RowK.io {L L3 L4 : List Int} {r : Nat} (h : RowK L L3 25) (e : L4 = L3.set 0 (bXor (L3.getD 0 0) ((krcs.getD r 0 : Nat) : Int))) {j : Nat} (hj : j < 25) : lan L4 j = lround (lan L) r j := by
  have hl := h.len
  subst e
  rw [lan_bw, getD_setI]
  unfold lround
  by_cases h0 : j = 0
  · subst h0
    rw [if_pos ⟨rfl, by omega⟩, if_pos rfl, bw_xor, ← lan_bw, h.row 0 (by decide)]
    congr 1
  · rw [if_neg (by omega), if_neg h0]; exact h.row j hj
theorem be8_part {M : List Int} {i : Nat} {p0 p1 p2 p3 p4 p5 p6 p7 : Int} (hp : (M.drop (8 * i)).take 8 = [p0, p1, p2, p3, p4, p5, p6, p7]) : be8 p0 p1 p2 p3 p4 p5 p6 p7 = be8f (fun k => M.getD (8 * i + k) 0) := by
  have hg : ∀ k, k < 8 → M.getD (8 * i + k) 0 = ([p0, p1, p2, p3, p4, p5, p6, p7] : List Int).getD k 0 := fun k hk => by rw [← hp, getD_part hk]
  unfold be8f
  simp only [hg 0 (by decide), hg 1 (by decide), hg 2 (by decide), hg 3 (by decide), hg 4 (by decide), hg 5 (by decide), hg 6 (by decide), hg 7 (by decide)]
  rfl
theorem labs_congr {A B : Nat → BitVec 64} {p q : Nat → Int} (h : ∀ j, j < 25 → A j = B j) (hp : ∀ k, k < 136 → p k = q k) {j : Nat} (hj : j < 25) : labs A p j = labs B q j := by
  unfold labs
  refine lrounds_congr (fun j hj => ?_) 24 j hj
  by_cases h17 : j < 17
  · simp only [if_pos h17]
    rw [h j hj]
    have : (fun k => p (8 * j + k)) = (fun k => p (8 * j + k)) := rfl
    have e : be8f (fun k => p (8 * j + k)) = be8f (fun k => q (8 * j + k)) := by
      unfold be8f
      simp only [hp (8 * j + 0) (by omega), hp (8 * j + 1) (by omega), hp (8 * j + 2) (by omega), hp (8 * j + 3) (by omega), hp (8 * j + 4) (by omega), hp (8 * j + 5) (by omega), hp (8 * j + 6) (by omega), hp (8 * j + 7) (by omega)]
    rw [e]
  · simp only [if_neg h17]; exact h j hj
theorem getD_put8 {L : List Int} {o : Nat} {x : Int} (h : o + 8 ≤ L.length) (k : Nat) : (put8 L o x).getD k 0 = if o ≤ k ∧ k < o + 8 then x / 2 ^ (8 * (7 - (k - o))) % 256 else L.getD k 0 := by
  unfold put8
  simp only [getD_setI, List.length_set]
  by_cases h9 : o ≤ k ∧ k < o + 8
  · rw [if_pos h9]
    obtain ⟨r, rfl⟩ : ∃ r, k = o + r := ⟨k - o, by omega⟩
    have hc : r = 0 ∨ r = 1 ∨ r = 2 ∨ r = 3 ∨ r = 4 ∨ r = 5 ∨ r = 6 ∨ r = 7 := by omega
    rw [show o + r - o = r by omega]
    rcases hc with rfl | rfl | rfl | rfl | rfl | rfl | rfl | rfl
    · rw [if_neg (by omega), if_neg (by omega), if_neg (by omega), if_neg (by omega), if_neg (by omega), if_neg (by omega), if_neg (by omega), if_pos ⟨by omega, by omega⟩]
    · rw [if_neg (by omega), if_neg (by omega), if_neg (by omega), if_neg (by omega), if_neg (by omega), if_neg (by omega), if_pos ⟨by omega, by omega⟩]
    · rw [if_neg (by omega), if_neg (by omega), if_neg (by omega), if_neg (by omega), if_neg (by omega), if_pos ⟨by omega, by omega⟩]
    · rw [if_neg (by omega), if_neg (by omega), if_neg (by omega), if_neg (by omega), if_pos ⟨by omega, by omega⟩]
    · rw [if_neg (by omega), if_neg (by omega), if_neg (by omega), if_pos ⟨by omega, by omega⟩]
    · rw [if_neg (by omega), if_neg (by omega), if_pos ⟨by omega, by omega⟩]
    · rw [if_neg (by omega), if_pos ⟨by omega, by omega⟩]
    · rw [if_pos ⟨by omega, by omega⟩]; simp
  · rw [if_neg h9]
    repeat rw [if_neg (by omega)]
theorem byte_out {r : Int} (hr : 0 ≤ r ∧ r ≤ 18446744073709551615) (e : Nat) : r / 2 ^ e % 256 = ((r.toNat / 2 ^ e % 256 : Nat) : Int) := by
  have h1 := Int.toNat_of_nonneg hr.1
  have h2 : (r / 2 ^ e) = ((r.toNat / 2 ^ e : Nat) : Int) := by rw [Int.natCast_ediv, h1]; simp
  rw [h2]; omega
section
variable {P : Program} {ρ : Nat → Value} {w : World} {ops : Array Oper} {Q : Post} {os : List Oper} {x y : Operand} {ty t e : TypeId}
theorem WH_storeX {S : World → Prop} {os' : List (Oper × Bool)} {tg : Bool} {b o : Nat} {T : TypeId} {L : List Int} {z : Int} {pos : _} {af : _} (hS : ∀ w, (Go.sizeOf t).run P w = .ok 1 w) (hx : ev ρ x = .pointer (some ⟨b, o, none⟩)) (hy : ev ρ y = .int .u64 z)
    (hb : Hb w b (.cells (ic .u64 L) T (0, 0))) (ho : o < L.length) (hz : 0 ≤ z ∧ z ≤ 18446744073709551615)
    (h : ∀ w' L', UT b T L w w' L' → L' = L.set o z → (tg = true → S w') ∧ WH P ops S Q os' ρ w') : WH P ops S Q ((⟨none, .store t x y, ty, pos, af, none⟩, tg) :: os') ρ w :=
  WH_store1 hS hx hy hb.h rfl (by rw [size_ic]; exact ho) rfl (h _ _ (UT.set hb hz) rfl).1 (h _ _ (UT.set hb hz) rfl).2
theorem WO_storeBX {b o : Nat} {T : TypeId} {L : List Int} {z : Int} {pos : _} {af : _} (hS : ∀ w, (Go.sizeOf t).run P w = .ok 1 w) (hx : ev ρ x = .pointer (some ⟨b, o, none⟩)) (hy : ev ρ y = .int .u8 z)
    (hb : Hb w b (.cells (ic .u8 L) T (0, 0))) (ho : o < L.length) (hz : 0 ≤ z ∧ z ≤ 255)
    (h : ∀ w' L', BufT b T L w w' L' → L' = L.set o z → WO P ops Q os ρ w') : WO P ops Q (⟨none, .store t x y, ty, pos, af, none⟩ :: os) ρ w :=
  WO_store1 hS hx hy hb.h rfl (by rw [size_ic]; exact ho) rfl (h _ (L.set o z) (by
    rw [ic_setA]
    exact ⟨by simp, fun hl => by
      intro x hx
      rcases List.mem_or_eq_of_mem_set hx with hx | hx
      · exact hl x hx
      · subst hx; exact hz, Hb.setSame hb, (KeepO.refl (fun x => x = b) w).setB (fun _ => rfl) _⟩) rfl)
end
theorem ksum_len (d : List Int) : (khash d).length = 32 := by simp [khash]
theorem ksum_gd (d : List Int) {k : Nat} (hk : k < 32) : (khash d).getD k 0 = ((kbyte (kst d (d.length / 136 + 1)) k : Nat) : Int) := by simp [khash, List.getD_eq_getElem?_getD, hk]
theorem ksum_of {d R : List Int} (hd : ∀ x ∈ d, 0 ≤ x ∧ x ≤ 255) {A : Nat → BitVec 64} (hA : ∀ j, j < 25 → A j = lst d (d.length / 136 + 1) j) (hl : R.length = 32) (h : ∀ k, k < 32 → R.getD k 0 = (((turnBV (A (k / 8))).toNat / 2 ^ (8 * (7 - k % 8)) % 256 : Nat) : Int)) : R = khash d := by
  refine list_gd (by rw [hl, ksum_len]) fun k hk => ?_
  rw [h k (by omega), ksum_gd d (by omega), hA _ (by omega), ← KS.byte (KS.st hd _ (Nat.le_refl _)) (by omega)]
theorem last_pad {L M L6 L7 L8 : List Int} {n : Nat} (hn : n < 136) (hM : M = L.drop (136 * (L.length / 136))) (hMl : M.length = n) (h6 : L6 = mid (List.replicate 136 0) 0 (M.take (Nat.min n 136))) (h7 : L7 = L6.set n 1) (h8 : L8 = L7.set 135 (bOr8 (L7.getD 135 0) 128)) {k : Nat} (hk : k < 136) : L8.getD k 0 = kpad L (136 * (L.length / 136) + k) := by
  have hmn : Nat.min n 136 = n := Nat.min_eq_left (by omega)
  rw [hmn, List.take_of_length_le (by omega)] at h6
  have hLl : n = L.length - 136 * (L.length / 136) := by rw [← hMl, hM, List.length_drop]
  have h6l : L6.length = 136 := by rw [h6, mid_len (by simp; omega)]; simp
  have g6 : ∀ j, L6.getD j 0 = if j < n then L.getD (136 * (L.length / 136) + j) 0 else 0 := by
    intro j
    rw [h6, getD_mid (by simp; omega), if_neg (by omega), hMl]
    by_cases h9 : j < n
    · rw [if_pos (by omega), if_pos h9, hM]
      simp [List.getD_eq_getElem?_getD, List.getElem?_drop]
    · rw [if_neg (by omega), if_neg h9]; exact getD_repI _ _
  have g7 : ∀ j, L7.getD j 0 = if j = n then 1 else L6.getD j 0 := by
    intro j
    rw [h7, getD_setI]
    by_cases h9 : n = j
    · rw [if_pos ⟨h9, by omega⟩, if_pos h9.symm]
    · rw [if_neg (by omega), if_neg (fun h => h9 h.symm)]
  have h7l : L7.length = 136 := by rw [h7, List.length_set]; exact h6l
  rw [h8, getD_setI]
  unfold kpad
  by_cases h9 : 135 = k
  · subst h9
    rw [if_pos ⟨rfl, by omega⟩, if_neg (by omega), if_pos (show 136 * (L.length / 136) + 135 = 136 * (L.length / 136 + 1) - 1 by omega), g7]
    by_cases h5 : 135 = n
    · rw [if_pos h5, if_pos (by omega)]; rfl
    · rw [if_neg h5, g6, if_neg (by omega), if_neg (by omega)]; rfl
  · rw [if_neg (by omega), g7]
    by_cases h5 : k = n
    · rw [if_pos h5, if_neg (by omega), if_pos (by omega), if_neg (by omega)]; rfl
    · rw [if_neg h5, g6]
      by_cases h4 : k < n
      · rw [if_pos h4, if_pos (by omega)]
      · rw [if_neg h4, if_neg (by omega), if_neg (by omega), if_neg (by omega)]; rfl

set_option maxRecDepth 10000 in
theorem keccakF_ex (b : Nat) (T : TypeId) (L : List Int) (w : World) (hb : Hb w b (.cells (ic .u64 L) T (0, 0))) (hl : L.length = 25) : Ret Hvac.prog 316 #[.pointer (some ⟨b, 0, none⟩)] w fun u w' => u = .tuple #[] ∧ ∃ L', UT b T L w w' L' ∧ ∀ j, j < 25 → lan L' j = lrounds (lan L) 24 j := by
  refine Ret_of_W Hvac.func316 rfl rfl ?_
  refine W_seq ?_
  refine W_seq ?_
  refine W_region rfl ?_
  refine WO_p (PS_move_ptr rfl) ?_
  refine WO_p (PS_eqlnil Hvac.underlying283 rfl) ?_
  refine WO_nil ?_
  refine thn_normal ?_
  refine W_if rfl (fun hb2 => ?_) (fun hb2 => ?_)
  · have hb2p := hb2.h; try simp only [al_ete, al_dfn, Bool.not_eq_true', Bool.not_eq_false', al_ne, Bool.not_not, al_nn] at hb2p
    simp at hb2p --END
  · have hb2p := hb2.h; try simp only [al_ete, al_dfn, Bool.not_eq_true', Bool.not_eq_false', al_ne, Bool.not_not, al_nn] at hb2p
    refine W_skip ?_
    refine thn_normal ?_
    refine W_seq ?_
    refine W_region rfl ?_
    refine WO_p (PS_assign_int rfl) ?_
    refine WO_nil ?_
    refine thn_normal ?_
    refine W_block ?_
    refine W_loopN (fun m ρ w' => ∃ (i : Nat) (L2 : List Int), i + m = 24 ∧ L2.length = 25 ∧ (∀ j, j < 25 → lan L2 j = lrounds (lan L) i j) ∧ Fr [(0, .pointer (some ⟨b, 0, none⟩)), (2, .int .u8 i)] ρ ∧ UT b T L w w' L2) 24 ?_ ?_
    · exact ⟨0, L, by omega, hl, fun _ _ => rfl, ⟨rfl, rfl, trivial⟩, UT.refl hb⟩
    intro m ρ w2 hI
    obtain ⟨i, L2, him, hl2, hln2, hF, hU2⟩ := hI
    refine W_env _ hF ?_
    have hb2 := hU2.hb
    refine W_seq ?_
    refine W_seq ?_
    refine W_region rfl ?_
    refine WO_p (PS_move_int rfl) ?_
    refine WO_p (PS_lss rfl rfl) ?_
    refine WO_nil ?_
    refine thn_normal ?_
    refine W_if rfl (fun hb4 => ?_) (fun hb4 => ?_)
    · have hb4p := hb4.h; try simp only [al_ete, al_dfn, Bool.not_eq_true', Bool.not_eq_false', al_ne, Bool.not_not, al_nn] at hb4p
      refine W_skip ?_
      refine thn_normal ?_
      refine W_seq ?_
      refine W_block ?_
      refine W_seq ?_
      refine W_region rfl ?_
      refine WO_p (PS_move_ptr rfl) ?_
      refine WO_call Hvac.call357 (by rfl) (Ret.mono (round_ex b T L2 _ hb2 hl2) ?_)
      rintro _ w3 ⟨rfl, L3, hU3, hR3⟩
      have hb3 := hU3.hb
      have hl3 : L3.length = 25 := hU3.len.trans hl2
      have hz3 := hU3.keep.sz
      have hce0 : Ce (ic .u64 L3) (0 + (0 : Int).toNat * 1) (.int .u64 (L3.getD 0 0)) := ce_ic (by omega)
      refine WO_nil ?_
      refine thn_normal ?_
      refine W_drawE [false, false, false, false, false, true, false, false, false, false] hmix (by kernel_rfl) rfl ?_
      refine WH_p (PS_move_ptr rfl) rfl ?_
      refine WH_p (PS_nilCheck rfl) rfl ?_
      refine WH_p (PS_indexA Hvac.runUnderlying281 Hvac.sizeOf26 rfl rfl (by omega) (by omega)) rfl ?_
      refine WH_load (.int _ _) Hvac.isAgg26 rfl (Hb.h (by repeat (first | assumption | exact Hb.newY _ _ | refine Hb.alloc ?_ | refine Hb.drew ?_ | refine Hb.ext (by assumption) ?_ | exact Hb.setSameL (by first | omega | (simp only [size_alloc, size_setB, size_drew]; omega)) | exact Hb.setSame (by assumption) | refine Hb.set (by first | omega | (simp only [size_alloc, size_setB, size_drew]; omega)) ?_ ))) (Ce.h (by first | assumption | exact ⟨rfl⟩)) ?_
      refine WH_p (PS_move_int rfl) rfl ?_
      refine WH_call Hvac.call358 (by rfl) (Ret.mono (rc_ex i _ (by omega)) ?_)
      rintro _ w358_5 ⟨hE358_5, rfl⟩
      refine ⟨fun _ => (by repeat (first | assumption | exact Ext.refl _ | refine Ext.alloc ?_ _ | refine Ext.drew ?_ | refine Ext.setB ?_ (by first | omega | (simp only [size_alloc, size_setB, size_drew]; omega)) _ | exact Ext.trans (by assumption) (by assumption) | refine Ext.trans ?_ (by assumption))), ?_⟩
      have hz358_5 := hE358_5.1
      try simp only [size_alloc, size_setB, size_drew] at hz358_5
      refine WH_p (PS_xor_u64 rfl rfl) rfl ?_
      refine WH_p (PS_nilCheck rfl) rfl ?_
      refine WH_p (PS_indexA Hvac.runUnderlying281 Hvac.sizeOf26 rfl rfl (by omega) (by omega)) rfl ?_
      refine WH_storeX Hvac.sizeOf26 rfl rfl (Hb.mk (Hb.h (by repeat (first | assumption | exact Hb.newY _ _ | refine Hb.alloc ?_ | refine Hb.drew ?_ | refine Hb.ext (by assumption) ?_ | exact Hb.setSameL (by first | omega | (simp only [size_alloc, size_setB, size_drew]; omega)) | exact Hb.setSame (by assumption) | refine Hb.set (by first | omega | (simp only [size_alloc, size_setB, size_drew]; omega)) ?_ )))) (by rw [hl3]; decide) (bXor_bd _ _) ?_
      intro w4 L4 hU4 hLe4
      refine ⟨(fun h => by cases h), ?_⟩
      refine WH_nil ?_
      refine inBlk_normal ?_
      refine thn_normal ?_
      refine W_region rfl ?_
      refine WO_p (PS_move_int rfl) ?_
      refine WO_p (PS_add_u8n rfl rfl (by omega) (by omega)) ?_
      refine WO_p (PS_assign_int rfl) ?_
      refine WO_nil ?_
      refine thn_normal ?_
      exact ⟨m - 1, by omega, i + 1, L4, by omega, hU4.len.trans hl3, fun j hj => by rw [hR3.io hLe4 hj]; exact lround_congr hln2 i hj, ⟨rfl, congrArg (Value.int .u8) (by omega), trivial⟩, hU2.trans (hU3.trans (UT.pre (by repeat (first | assumption | exact Ext.refl _ | refine Ext.alloc ?_ _ | refine Ext.drew ?_ | refine Ext.setB ?_ (by first | omega | (simp only [size_alloc, size_setB, size_drew]; omega)) _ | refine Ext.trans ?_ (by assumption))) hU4))⟩
    · have hb4p := hb4.h; try simp only [al_ete, al_dfn, Bool.not_eq_true', Bool.not_eq_false', al_ne, Bool.not_not, al_nn] at hb4p
      refine W_exit ?_
      refine thn_exit ?_
      refine thn_exit ?_
      refine inBlk_exit ?_
      first | refine bodyQ_ret0 Hvac.results316 ?_ | refine bodyQ_end0 Hvac.results316 ?_
      exact ⟨rfl, L2, hU2, by rw [show i = 24 by omega] at hln2; exact hln2⟩

set_option maxRecDepth 10000 in
theorem absorb_ex (b bk o : Nat) (T Tk : TypeId) (L M : List Int) (r : Array Value) (fz : Nat × Nat) (w : World) (hb : Hb w b (.cells (ic .u64 L) T (0, 0))) (hl : L.length = 25) (hk : Hb w bk (.cells r Tk fz)) (hx : Xt r o (o + 136) (ic .u8 M)) (hM : By M 136) (hsz : o + 136 ≤ r.size) (hne : bk ≠ b) : Ret Hvac.prog 213 #[.pointer (some ⟨b, 0, none⟩), .pointer (some ⟨bk, o, none⟩)] w fun u w' => u = .tuple #[] ∧ ∃ L', UT b T L w w' L' ∧ ∀ j, j < 25 → lan L' j = labs (lan L) (fun k => M.getD k 0) j := by
  refine Ret_of_W Hvac.func213 rfl rfl ?_
  refine W_seq ?_
  refine W_seq ?_
  refine W_region rfl ?_
  refine WO_p (PS_assign_int rfl) ?_
  refine WO_nil ?_
  refine thn_normal ?_
  refine W_block ?_
  refine W_loopN (fun m ρ w' => ∃ (i : Nat) (L2 : List Int), i + m = 17 ∧ L2.length = 25 ∧ (∀ j, lan L2 j = if j < i then lan L j ^^^ turnBV (BitVec.ofInt 64 (be8f (fun k => M.getD (8 * j + k) 0))) else lan L j) ∧ Fr [(0, .pointer (some ⟨b, 0, none⟩)), (1, .pointer (some ⟨bk, o, none⟩)), (4, .int .i64 i)] ρ ∧ UT b T L w w' L2) 17 ?_ ?_
  · exact ⟨0, L, by omega, hl, fun j => by rw [if_neg (by omega)], ⟨rfl, rfl, rfl, trivial⟩, UT.refl hb⟩
  intro m ρ w2 hI
  obtain ⟨i, L2, him, hl2, hln2, hF, hU2⟩ := hI
  refine W_env _ hF ?_
  have hbb2 := hU2.hb
  have hk2 := hU2.other hk hne
  refine W_seq ?_
  refine W_seq ?_
  refine W_region rfl ?_
  refine WO_p (PS_move_int rfl) ?_
  refine WO_p (PS_lss rfl rfl) ?_
  refine WO_nil ?_
  refine thn_normal ?_
  refine W_if rfl (fun hb2 => ?_) (fun hb2 => ?_)
  · have hb2p := hb2.h; try simp only [al_ete, al_dfn, Bool.not_eq_true', Bool.not_eq_false', al_ne, Bool.not_not, al_nn] at hb2p
    have hml := hM.1
    obtain ⟨p0, p1, p2, p3, p4, p5, p6, p7, hp⟩ := list8 (l := (M.drop (8 * i)).take 8) (by simp; omega)
    have hx8 := xt_part hx (8 * i) 8 (by omega)
    rw [hp] at hx8
    rw [show 8 * i = (8 * (i : Int)).toNat * 1 from by omega] at hx8
    have hbp : ∀ x ∈ [p0, p1, p2, p3, p4, p5, p6, p7], 0 ≤ x ∧ x ≤ 255 := fun x hx => hM.2 x (List.mem_of_mem_drop (List.mem_of_mem_take (hp ▸ hx)))
    have hq0 := hbp p0 (by simp)
    have hq1 := hbp p1 (by simp)
    have hq2 := hbp p2 (by simp)
    have hq3 := hbp p3 (by simp)
    have hq4 := hbp p4 (by simp)
    have hq5 := hbp p5 (by simp)
    have hq6 := hbp p6 (by simp)
    have hq7 := hbp p7 (by simp)
    have hce : Ce (ic .u64 L2) (0 + i * 1) (.int .u64 (L2.getD i 0)) := ce_ic (by omega)
    refine W_skip ?_
    refine thn_normal ?_
    refine W_seq ?_
    refine W_block ?_
    refine W_seq ?_
    refine W_region rfl ?_
    refine WO_p (PS_move_ptr rfl) ?_
    refine WO_p (PS_nilCheck rfl) ?_
    refine WO_p (PS_slA Hvac.runUnderlying285 Hvac.sizeOf5 rfl (by omega)) ?_
    refine WO_p (PS_move_int rfl) ?_
    refine WO_p (PS_mul_i64n rfl rfl (by omega) (by omega)) ?_
    refine WO_call Hvac.call152 (by rfl) (Ret.mono (be64_spec bk o 136 136 (8 * (i : Int)) p0 p1 p2 p3 p4 p5 p6 p7 r Tk fz _ (Hb.mk (Hb.h (by repeat (first | assumption | exact Hb.newY _ _ | refine Hb.alloc ?_ | refine Hb.drew ?_ | refine Hb.ext (by assumption) ?_ | exact Hb.setSameL (by first | omega | (simp only [size_alloc, size_setB, size_drew]; omega)) | exact Hb.setSame (by assumption) | refine Hb.set (by first | omega | (simp only [size_alloc, size_setB, size_drew]; omega)) ?_ )))) hx8 (by omega) (by omega) (by omega) (by omega) (by omega) hq0 hq1 hq2 hq3 hq4 hq5 hq6 hq7) ?_)
    rintro _ w3 ⟨rfl, hE3⟩
    have hz3 := hE3.1
    have hbe := be8_bd hq0 hq1 hq2 hq3 hq4 hq5 hq6 hq7
    have hb3 := Hb.ext hE3 hbb2
    refine WO_p (PS_move_tuple rfl) ?_
    refine WO_p (PS_extract_int rfl rfl) ?_
    refine WO_p (PS_extract_bool rfl rfl) ?_
    refine WO_p (PS_assign_int rfl) ?_
    refine WO_p (PS_assign_bool rfl) ?_
    refine WO_nil ?_
    refine thn_normal ?_
    refine W_drawE [false, false, false, false, false, false, true, false, false, false, false] hmix (by kernel_rfl) rfl ?_
    refine WH_p (PS_move_ptr rfl) rfl ?_
    refine WH_p (PS_move_int rfl) rfl ?_
    refine WH_p (PS_nilCheck rfl) rfl ?_
    refine WH_p (PS_indexA Hvac.runUnderlying281 Hvac.sizeOf26 rfl rfl (by omega) (by omega)) rfl ?_
    refine WH_load (.int _ _) Hvac.isAgg26 rfl (Hb.h (by repeat (first | assumption | exact Hb.newY _ _ | refine Hb.alloc ?_ | refine Hb.drew ?_ | refine Hb.ext (by assumption) ?_ | exact Hb.setSameL (by first | omega | (simp only [size_alloc, size_setB, size_drew]; omega)) | exact Hb.setSame (by assumption) | refine Hb.set (by first | omega | (simp only [size_alloc, size_setB, size_drew]; omega)) ?_ ))) (Ce.h (by first | assumption | exact ⟨rfl⟩)) ?_
    refine WH_p (PS_move_int rfl) rfl ?_
    refine WH_call Hvac.call214 (by rfl) (Ret.mono (turned_ex _ _ (by omega)) ?_)
    rintro _ w214_4 ⟨hE214_4, r5, rfl, hr5, hrv5⟩
    refine ⟨fun _ => (by repeat (first | assumption | exact Ext.refl _ | refine Ext.alloc ?_ _ | refine Ext.drew ?_ | refine Ext.setB ?_ (by first | omega | (simp only [size_alloc, size_setB, size_drew]; omega)) _ | exact Ext.trans (by assumption) (by assumption) | refine Ext.trans ?_ (by assumption))), ?_⟩
    have hz214_4 := hE214_4.1
    try simp only [size_alloc, size_setB, size_drew] at hz214_4
    refine WH_p (PS_xor_u64 rfl rfl) rfl ?_
    refine WH_p (PS_nilCheck rfl) rfl ?_
    refine WH_p (PS_indexA Hvac.runUnderlying281 Hvac.sizeOf26 rfl rfl (by omega) (by omega)) rfl ?_
    refine WH_storeX Hvac.sizeOf26 rfl rfl (Hb.mk (Hb.h (by repeat (first | assumption | exact Hb.newY _ _ | refine Hb.alloc ?_ | refine Hb.drew ?_ | refine Hb.ext (by assumption) ?_ | exact Hb.setSameL (by first | omega | (simp only [size_alloc, size_setB, size_drew]; omega)) | exact Hb.setSame (by assumption) | refine Hb.set (by first | omega | (simp only [size_alloc, size_setB, size_drew]; omega)) ?_ )))) (by omega) (bXor_bd _ _) ?_
    intro w4 L4 hU4 hLe4
    refine ⟨(fun h => by cases h), ?_⟩
    refine WH_nil ?_
    refine inBlk_normal ?_
    refine thn_normal ?_
    refine W_region rfl ?_
    refine WO_p (PS_move_int rfl) ?_
    refine WO_p (PS_add_i64n rfl rfl (by omega) (by omega)) ?_
    refine WO_p (PS_assign_int rfl) ?_
    refine WO_nil ?_
    refine thn_normal ?_
    exact ⟨m - 1, by omega, i + 1, L4, by omega, hU4.len.trans hl2, fun j => by rw [hLe4, lan_bw, getD_setI]; by_cases h9 : j = i; (· subst h9; rw [if_pos ⟨by omega, by omega⟩, if_pos (by omega), bw_xor, ← lan_bw, hln2, if_neg (by omega), hrv5, be8_part hp]; rfl); (rw [if_neg (by omega), ← lan_bw, hln2]; by_cases h8 : j < i; (· rw [if_pos h8, if_pos (by omega)]); rw [if_neg h8, if_neg (by omega)]), ⟨rfl, rfl, congrArg (Value.int .i64) (by omega), trivial⟩, hU2.trans (UT.pre (by repeat (first | assumption | exact Ext.refl _ | refine Ext.alloc ?_ _ | refine Ext.drew ?_ | refine Ext.setB ?_ (by first | omega | (simp only [size_alloc, size_setB, size_drew]; omega)) _ | refine Ext.trans ?_ (by assumption))) hU4)⟩
  · have hb2p := hb2.h; try simp only [al_ete, al_dfn, Bool.not_eq_true', Bool.not_eq_false', al_ne, Bool.not_not, al_nn] at hb2p
    refine W_exit ?_
    refine thn_exit ?_
    refine thn_exit ?_
    refine inBlk_exit ?_
    refine thn_normal ?_
    refine W_region rfl ?_
    refine WO_p (PS_move_ptr rfl) ?_
    refine WO_call Hvac.call316 (by rfl) (Ret.mono (keccakF_ex b T L2 _ hbb2 hl2) ?_)
    rintro _ w9 ⟨rfl, L9, hU9, hln9⟩
    refine WO_nil ?_
    first | refine bodyQ_ret0 Hvac.results213 ?_ | refine bodyQ_end0 Hvac.results213 ?_
    exact ⟨rfl, L9, hU2.trans hU9, fun j hj => by rw [hln9 j hj]; refine lrounds_congr (fun j hj => ?_) 24 j hj; rw [hln2 j, show i = 17 by omega]⟩

set_option maxRecDepth 10000 in
set_option maxHeartbeats 4000000 in
theorem sum_ex (s : SV) (L : List Int) (w : World) (hs : SC w .u8 1 s L) (hL : By8 L) (hc : s.2.1 ≤ s.2.2) (hl : s.2.1 ≤ 1000000) : Ret Hvac.prog 141 #[.slice s.1 s.2.1 s.2.2] w fun u w' => Ext w w' ∧ u = .agg (ic .u8 (khash L)) ∧ By (khash L) 32 := by
  refine Ret_of_W Hvac.func141 rfl rfl ?_
  refine W_seq ?_
  refine W_region rfl ?_
  refine WO_allocG Hvac.zeroValue27 ?_
  intro b2 v2 hg2 hE2 hH2 hl2
  try simp only [size_alloc, size_setB, size_drew] at hg2
  have hzz2 := hE2.1
  try simp only [size_alloc, size_setB, size_drew] at hzz2
  replace hH2 : Hb v2 b2 (.cells (ic .u8 (List.replicate 32 0)) 27 (0, 0)) := hH2
  refine WO_nil ?_
  refine thn_normal ?_
  refine W_seq ?_
  refine W_region rfl ?_
  refine WO_allocG Hvac.zeroValue281 ?_
  intro b3 v3 hg3 hE3 hH3 hl3
  try simp only [size_alloc, size_setB, size_drew] at hg3
  have hzz3 := hE3.1
  try simp only [size_alloc, size_setB, size_drew] at hzz3
  replace hH3 : Hb v3 b3 (.cells (ic .u64 (List.replicate 25 0)) 281 (0, 0)) := hH3
  refine WO_nil ?_
  refine thn_normal ?_
  refine W_seq ?_
  refine W_block ?_
  refine W_loopN (fun k ρ w' => ∃ (p : Option Addr) (n cp : Nat) (M L2 : List Int), n = k ∧ n ≤ 1000000 ∧ n ≤ cp ∧ SC w .u8 1 (p, n, cp) M ∧ (∃ nb, n + 136 * nb = L.length ∧ M = L.drop (136 * nb) ∧ ∀ j, j < 25 → lan L2 j = lst L nb j) ∧ By8 M ∧ L2.length = 25 ∧ UL L2 ∧ Fr [(0, .slice p n cp), (2, .pointer (some ⟨b2, 0, none⟩)), (3, .pointer (some ⟨b3, 0, none⟩))] ρ ∧ Ext w w' ∧ v3.heap.size ≤ w'.heap.size ∧ Hb w' b3 (.cells (ic .u64 L2) 281 (0, 0)) ∧ Hb w' b2 (.cells (ic .u8 (List.replicate 32 0)) 27 (0, 0))) s.2.1 ?_ ?_
  · exact ⟨s.1, s.2.1, s.2.2, L, _, rfl, hl, hc, hs, ⟨0, by have := hs.1; omega, rfl, fun j _ => by rw [lan_bw, getD_repI]; rfl⟩, hL, by simp, (fun x hx => by rw [List.eq_of_mem_replicate hx]; decide), ⟨rfl, rfl, rfl, trivial⟩, (by repeat (first | assumption | exact Ext.refl _ | refine Ext.alloc ?_ _ | refine Ext.drew ?_ | refine Ext.setB ?_ (by first | omega | (simp only [size_alloc, size_setB, size_drew]; omega)) _ | refine Ext.trans ?_ (by assumption))), Nat.le_refl _, hH3, Hb.ext hE3 hH2⟩
  intro k ρ w2 hI2
  obtain ⟨p, n, cp, M, L2, hnk, hn1, hcp, hsc, ⟨nb, hnb, hMe, hlnb⟩, hM, hl2, hL2, hFr, hE2, hz32, hb2L, hb22⟩ := hI2
  refine W_env _ hFr ?_
  have hz2 := hE2.1
  have hMl : M.length = n := by have := hsc.1; simpa using this
  refine W_seq ?_
  refine W_seq ?_
  refine W_region rfl ?_
  refine WO_p (PS_move_slice rfl) ?_
  refine WO_p (PS_lenS Hvac.runUnderlying32 rfl) ?_
  refine WO_p (PS_geq rfl rfl) ?_
  refine WO_nil ?_
  refine thn_normal ?_
  refine W_if rfl (fun hb2 => ?_) (fun hb2 => ?_)
  · have hb2p := hb2.h; try simp only [al_ete, al_dfn, Bool.not_eq_true', Bool.not_eq_false', al_ne, Bool.not_not, al_nn] at hb2p
    obtain ⟨hsl, hs2⟩ := id hsc
    simp only [Nat.mul_one] at hsl hs2
    obtain ⟨bk, o, r, Tk, fz, hp, hbk, hszk, hxt⟩ := hs2.resolve_left (fun h => by omega)
    subst hp
    have hbkl := hbk.lt
    have hxt6 : Xt r o (o + 136) (ic .u8 (M.take 136)) := by have := xt_part hxt 0 136 (by omega); simpa using this
    have hM6 : By (M.take 136) 136 := ⟨by simp; omega, fun z hz => hM z (List.mem_of_mem_take hz)⟩
    refine W_skip ?_
    refine thn_normal ?_
    refine W_block ?_
    refine W_seq ?_
    refine W_region rfl ?_
    refine WO_p (PS_move_slice rfl) ?_
    refine WO_p (PS_slS_h Hvac.runUnderlying32 Hvac.sizeOf5 rfl rfl (by omega) (by omega) (by omega)) ?_
    refine WO_p (PS_arrayAt Hvac.runUnderlying285 rfl (by omega)) ?_
    refine WO_call Hvac.call213 (by rfl) (Ret.mono (absorb_ex b3 bk o 281 Tk L2 (M.take 136) r fz _ hb2L hl2 (Hb.mk (Hb.h (by repeat (first | assumption | exact Hb.newY _ _ | refine Hb.alloc ?_ | refine Hb.drew ?_ | refine Hb.ext (by assumption) ?_ | exact Hb.setSameL (by first | omega | (simp only [size_alloc, size_setB, size_drew]; omega)) | exact Hb.setSame (by assumption) | refine Hb.set (by first | omega | (simp only [size_alloc, size_setB, size_drew]; omega)) ?_ )))) hxt6 hM6 (by omega) (by omega)) ?_)
    rintro _ w9 ⟨rfl, L9, hU9, hln9⟩
    have hz9 := hU9.keep.sz
    have hE9 : Ext w w9 := UT.ext0 hE2 hU9 (by omega)
    have hb29 := hU9.other hb22 (by omega)
    refine WO_nil ?_
    refine thn_normal ?_
    refine W_region rfl ?_
    refine WO_p (PS_move_slice rfl) ?_
    refine WO_p (PS_slG_l Hvac.runUnderlying32 Hvac.sizeOf5 rfl rfl (by omega) (by omega)) ?_
    refine WO_p (PS_assign_slice rfl) ?_
    refine WO_nil ?_
    refine inBlk_normal ?_
    refine thn_normal ?_
    exact ⟨n - 136, by omega, slp' (some ⟨bk, o, none⟩) 136 cp 1, n - 136, cp - 136, M.drop 136, L9, by omega, by omega, by omega, SC.tailE hsc 136 (by show 136 ≤ n; omega) hcp, ⟨nb + 1, by omega, by rw [hMe, List.drop_drop]; congr 1, fun j hj => by rw [hln9 j hj]; exact labs_congr hlnb (fun k hk => by unfold kpad; rw [if_pos (by omega), hMe]; simp [List.getD_eq_getElem?_getD, List.getElem?_take, List.getElem?_drop, hk]) hj⟩, fun z hz => hM z (List.mem_of_mem_drop hz), hU9.len.trans hl2, hU9.ty hL2, ⟨rfl, rfl, rfl, trivial⟩, hE9, by omega, hU9.hb, hb29⟩
  · have hb2p := hb2.h; try simp only [al_ete, al_dfn, Bool.not_eq_true', Bool.not_eq_false', al_ne, Bool.not_not, al_nn] at hb2p
    refine W_exit ?_
    refine thn_exit ?_
    refine thn_exit ?_
    refine inBlk_exit ?_
    refine thn_normal ?_
    refine W_seq ?_
    refine W_region rfl ?_
    refine WO_allocG Hvac.zeroValue285 ?_
    intro b4 v4 hg4 hE4 hH4 hl4
    try simp only [size_alloc, size_setB, size_drew] at hg4
    have hzz4 := hE4.1
    try simp only [size_alloc, size_setB, size_drew] at hzz4
    replace hH4 : Hb v4 b4 (.cells (ic .u8 (List.replicate 136 0)) 285 (0, 0)) := hH4
    refine WO_nil ?_
    refine thn_normal ?_
    refine W_seq ?_
    refine W_region rfl ?_
    refine WO_p (PS_slA Hvac.runUnderlying285 Hvac.sizeOf5 rfl (by omega)) ?_
    refine WO_p (PS_move_slice rfl) ?_
    refine WO_copyTX (b2 := 0) (b := b4) (o := 0) Hvac.runUnderlying32 Hvac.sizeOf5 rfl rfl (fun _ => rfl) hH4 (by simp) (SC.ext hsc (by repeat (first | assumption | exact Ext.refl _ | refine Ext.alloc ?_ _ | refine Ext.drew ?_ | refine Ext.setB ?_ (by first | omega | (simp only [size_alloc, size_setB, size_drew]; omega)) _ | exact Ext.trans (by assumption) (by assumption) | refine Ext.trans ?_ (by assumption)))) hM ?_
    intro w6 L6 hT6 hLe6
    have hC6 := hT6.hb
    have hl6 : L6.length = 136 := by rw [hT6.len]; simp
    have hz6 := hT6.keep.sz
    refine WO_nil ?_
    refine thn_normal ?_
    refine W_seq ?_
    refine W_region rfl ?_
    refine WO_p (PS_move_slice rfl) ?_
    refine WO_p (PS_lenS Hvac.runUnderlying32 rfl) ?_
    refine WO_p (PS_indexA Hvac.runUnderlying285 Hvac.sizeOf5 rfl rfl (by omega) (by omega)) ?_
    refine WO_storeBX Hvac.sizeOf5 rfl rfl hC6 (by omega) (by decide) ?_
    intro w7 L7 hT7 hLe7
    have hC7 := hT7.hb
    have hl7 : L7.length = 136 := hT7.len.trans hl6
    have hz7 := hT7.keep.sz
    have hce7 : Ce (ic .u8 L7) (0 + (135 : Int).toNat * 1) (.int .u8 (L7.getD 135 0)) := ce_ic (by omega)
    refine WO_nil ?_
    refine thn_normal ?_
    refine W_seq ?_
    refine W_region rfl ?_
    refine WO_p (PS_indexA Hvac.runUnderlying285 Hvac.sizeOf5 rfl rfl (by omega) (by omega)) ?_
    refine WO_load (.int _ _) Hvac.isAgg5 rfl (Hb.h (by repeat (first | assumption | exact Hb.newY _ _ | refine Hb.alloc ?_ | refine Hb.drew ?_ | refine Hb.ext (by assumption) ?_ | exact Hb.setSameL (by first | omega | (simp only [size_alloc, size_setB, size_drew]; omega)) | exact Hb.setSame (by assumption) | refine Hb.set (by first | omega | (simp only [size_alloc, size_setB, size_drew]; omega)) ?_ ))) (Ce.h (by first | assumption | exact ⟨rfl⟩)) ?_
    refine WO_p (PS_or_u8 rfl rfl) ?_
    refine WO_p (PS_indexA Hvac.runUnderlying285 Hvac.sizeOf5 rfl rfl (by omega) (by omega)) ?_
    refine WO_storeBX Hvac.sizeOf5 rfl rfl hC7 (by omega) (bOr8_bd _ _) ?_
    intro w8 L8 hT8 hLe8
    have hC8 := hT8.hb
    have hL8 : By L8 136 := ⟨hT8.len.trans hl7, hT8.ty (hT7.ty (hT6.ty (by_zero 136)))⟩
    have hz8 := hT8.keep.sz
    have hx8 : Xt (ic .u8 L8) 0 (0 + 136) (ic .u8 L8) := by have h := Xt.ic .u8 L8 0 136 (by have := hL8.1; omega); rwa [List.drop_zero, List.take_of_length_le (by have := hL8.1; omega)] at h
    have hb8L := hT8.other (hT7.other (hT6.other (Hb.ext hE4 hb2L) (by omega)) (by omega)) (by omega)
    have hb28 := hT8.other (hT7.other (hT6.other (Hb.ext hE4 hb22) (by omega)) (by omega)) (by omega)
    have hE8 : Ext w w8 := hT8.ext (hT7.ext (hT6.ext (by repeat (first | assumption | exact Ext.refl _ | refine Ext.alloc ?_ _ | refine Ext.drew ?_ | refine Ext.setB ?_ (by first | omega | (simp only [size_alloc, size_setB, size_drew]; omega)) _ | exact Ext.trans (by assumption) (by assumption) | refine Ext.trans ?_ (by assumption))) (by omega)) (by omega)) (by omega)
    refine WO_nil ?_
    refine thn_normal ?_
    refine W_seq ?_
    refine W_region rfl ?_
    refine WO_call Hvac.call213 (by rfl) (Ret.mono (absorb_ex b3 b4 0 281 285 L2 L8 (ic .u8 L8) (0, 0) _ hb8L hl2 hC8 hx8 hL8 (by rw [size_ic, hL8.1]; decide) (by omega)) ?_)
    rintro _ w9 ⟨rfl, L9, hU9, hln9⟩
    have hz9 := hU9.keep.sz
    have hE9 : Ext w w9 := UT.ext0 hE8 hU9 (by omega)
    have hb29 := hU9.other hb28 (by omega)
    have hb9 := hU9.hb
    have hl9 := hU9.len.trans hl2
    have hL9 := hU9.ty hL2
    refine WO_nil ?_
    refine thn_normal ?_
    refine W_seq ?_
    refine W_region rfl ?_
    refine WO_allocG Hvac.zeroValue27 ?_
    intro b5 v5 hg5 hE5 hH5 hl5
    try simp only [size_alloc, size_setB, size_drew] at hg5
    have hzz5 := hE5.1
    try simp only [size_alloc, size_setB, size_drew] at hzz5
    replace hH5 : Hb v5 b5 (.cells (ic .u8 (List.replicate 32 0)) 27 (0, 0)) := hH5
    refine WO_nil ?_
    refine thn_normal ?_
    refine W_seq ?_
    refine W_seq ?_
    refine W_region rfl ?_
    refine WO_p (PS_assign_int rfl) ?_
    refine WO_nil ?_
    refine thn_normal ?_
    refine W_block ?_
    refine W_loopN (fun k ρ w' => ∃ (i : Nat) (L6 : List Int), i + k = 4 ∧ By L6 32 ∧ (∀ k', k' < 8 * i → L6.getD k' 0 = (((turnBV (lan L9 (k' / 8))).toNat / 2 ^ (8 * (7 - k' % 8)) % 256 : Nat) : Int)) ∧ Fr [(2, .pointer (some ⟨b2, 0, none⟩)), (3, .pointer (some ⟨b3, 0, none⟩)), (5, .pointer (some ⟨b5, 0, none⟩)), (6, .int .i64 i)] ρ ∧ Ext w w' ∧ v5.heap.size ≤ w'.heap.size ∧ Hb w' b3 (.cells (ic .u64 L9) 281 (0, 0)) ∧ Hb w' b2 (.cells (ic .u8 (List.replicate 32 0)) 27 (0, 0)) ∧ Hb w' b5 (.cells (ic .u8 L6) 27 (0, 0))) 4 ?_ ?_
    · exact ⟨0, List.replicate 32 0, rfl, ⟨by simp, by_zero 32⟩, fun k' hk' => by omega, ⟨rfl, rfl, rfl, rfl, trivial⟩, (by repeat (first | assumption | exact Ext.refl _ | refine Ext.alloc ?_ _ | refine Ext.drew ?_ | refine Ext.setB ?_ (by first | omega | (simp only [size_alloc, size_setB, size_drew]; omega)) _ | refine Ext.trans ?_ (by assumption))), Nat.le_refl _, Hb.ext hE5 hb9, Hb.ext hE5 hb29, hH5⟩
    intro k2 ρ2 w5 hI5
    obtain ⟨i, L6, hik, hL6, hby6, hFr5, hE55, hz55, hb53, hb52, hb55⟩ := hI5
    refine W_env _ hFr5 ?_
    have hz5 := hE55.1
    have hl6 := hL6.1
    have hl25 := hL9.get i
    refine W_seq ?_
    refine W_seq ?_
    refine W_region rfl ?_
    refine WO_p (PS_move_int rfl) ?_
    refine WO_p (PS_lss rfl rfl) ?_
    refine WO_nil ?_
    refine thn_normal ?_
    refine W_if rfl (fun hb6 => ?_) (fun hb6 => ?_)
    · have hb6p := hb6.h; try simp only [al_ete, al_dfn, Bool.not_eq_true', Bool.not_eq_false', al_ne, Bool.not_not, al_nn] at hb6p
      have hce : Ce (ic .u64 L9) (0 + i * 1) (.int .u64 (L9.getD i 0)) := ce_ic (by omega)
      refine W_skip ?_
      refine thn_normal ?_
      refine W_seq ?_
      refine W_block ?_
      refine W_drawE [false, false, false, false, false, false, false, false] hmix (by kernel_rfl) rfl ?_
      refine WH_p (PS_slA Hvac.runUnderlying27 Hvac.sizeOf5 rfl (by omega)) rfl ?_
      refine WH_p (PS_move_int rfl) rfl ?_
      refine WH_p (PS_mul_i64n rfl rfl (by omega) (by omega)) rfl ?_
      refine WH_p (PS_move_int rfl) rfl ?_
      refine WH_p (PS_indexA Hvac.runUnderlying281 Hvac.sizeOf26 rfl rfl (by omega) (by omega)) rfl ?_
      refine WH_load (.int _ _) Hvac.isAgg26 rfl (Hb.h (by repeat (first | assumption | exact Hb.newY _ _ | refine Hb.alloc ?_ | refine Hb.drew ?_ | refine Hb.ext (by assumption) ?_ | exact Hb.setSameL (by first | omega | (simp only [size_alloc, size_setB, size_drew]; omega)) | exact Hb.setSame (by assumption) | refine Hb.set (by first | omega | (simp only [size_alloc, size_setB, size_drew]; omega)) ?_ ))) (Ce.h (by first | assumption | exact ⟨rfl⟩)) ?_
      refine WH_call Hvac.call214 (by rfl) (Ret.mono (turned_ex _ _ (hL9.get i)) ?_)
      rintro _ w214_6 ⟨hE214_6, r5, rfl, hr5, hrv5⟩
      refine ⟨(fun h => by cases h), ?_⟩
      have hz214_6 := hE214_6.1
      try simp only [size_alloc, size_setB, size_drew] at hz214_6
      refine WH_call Hvac.call169 (by rfl) (Ret.mono (putBE64_spec b5 32 32 (8 * i) 27 L6 _ _ (Hb.mk (Hb.h (by repeat (first | assumption | exact Hb.newY _ _ | refine Hb.alloc ?_ | refine Hb.drew ?_ | refine Hb.ext (by assumption) ?_ | exact Hb.setSameL (by first | omega | (simp only [size_alloc, size_setB, size_drew]; omega)) | exact Hb.setSame (by assumption) | refine Hb.set (by first | omega | (simp only [size_alloc, size_setB, size_drew]; omega)) ?_ )))) (by omega) (by omega) (by omega) (by omega) (by omega)) ?_)
      rintro _ w7 ⟨rfl, hT7⟩
      refine ⟨(fun h => by cases h), ?_⟩
      have hz7 := hT7.keep.sz
      refine WH_nil ?_
      refine inBlk_normal ?_
      refine thn_normal ?_
      refine W_region rfl ?_
      refine WO_p (PS_move_int rfl) ?_
      refine WO_p (PS_add_i64n rfl rfl (by omega) (by omega)) ?_
      refine WO_p (PS_assign_int rfl) ?_
      refine WO_nil ?_
      refine thn_normal ?_
      exact ⟨k2 - 1, by omega, i + 1, _, by omega, ⟨hT7.len.trans hl6, hT7.ty hL6.2⟩, fun k' hk' => by rw [getD_put8 (by omega)]; by_cases h9 : 8 * i ≤ k' ∧ k' < 8 * i + 8; (· rw [if_pos h9, show k' / 8 = i by omega, show k' % 8 = k' - 8 * i by omega, lan_bw, ← hrv5, bw_toNat hr5]; exact byte_out hr5 _); (rw [if_neg h9]; exact hby6 k' (by omega)), ⟨rfl, rfl, rfl, congrArg (Value.int .i64) (by omega), trivial⟩, hT7.ext (by repeat (first | assumption | exact Ext.refl _ | refine Ext.alloc ?_ _ | refine Ext.drew ?_ | refine Ext.setB ?_ (by first | omega | (simp only [size_alloc, size_setB, size_drew]; omega)) _ | refine Ext.trans ?_ (by assumption))) (by omega), by omega, hT7.other (Hb.mk (Hb.h (by repeat (first | assumption | exact Hb.newY _ _ | refine Hb.alloc ?_ | refine Hb.drew ?_ | refine Hb.ext (by assumption) ?_ | exact Hb.setSameL (by first | omega | (simp only [size_alloc, size_setB, size_drew]; omega)) | exact Hb.setSame (by assumption) | refine Hb.set (by first | omega | (simp only [size_alloc, size_setB, size_drew]; omega)) ?_ )))) (by omega), hT7.other (Hb.mk (Hb.h (by repeat (first | assumption | exact Hb.newY _ _ | refine Hb.alloc ?_ | refine Hb.drew ?_ | refine Hb.ext (by assumption) ?_ | exact Hb.setSameL (by first | omega | (simp only [size_alloc, size_setB, size_drew]; omega)) | exact Hb.setSame (by assumption) | refine Hb.set (by first | omega | (simp only [size_alloc, size_setB, size_drew]; omega)) ?_ )))) (by omega), hT7.hb⟩
    · have hb6p := hb6.h; try simp only [al_ete, al_dfn, Bool.not_eq_true', Bool.not_eq_false', al_ne, Bool.not_not, al_nn] at hb6p
      refine W_exit ?_
      refine thn_exit ?_
      refine thn_exit ?_
      refine inBlk_exit ?_
      refine thn_normal ?_
      refine W_seq ?_
      refine W_region rfl ?_
      refine WO_loadA _ Hvac.isAgg27 Hvac.sizeOf27 rfl (Hb.h (by repeat (first | assumption | exact Hb.newY _ _ | refine Hb.alloc ?_ | refine Hb.drew ?_ | refine Hb.ext (by assumption) ?_ | exact Hb.setSameL (by first | omega | (simp only [size_alloc, size_setB, size_drew]; omega)) | exact Hb.setSame (by assumption) | refine Hb.set (by first | omega | (simp only [size_alloc, size_setB, size_drew]; omega)) ?_ ))) (by first | omega | assumption | rfl | decide | exact Nat.le_refl _ | (simp only [size_ic, Value.cells]; omega) | (simp; omega) | simp) (Xt.h (by first | assumption | exact Xt.whole rfl rfl | exact Xt.whole rfl (by assumption) | exact Xt.whole rfl (by simp only [size_ic, Value.cells]; omega) | exact ⟨rfl⟩)) ?_
      first | refine WO_storeW Hvac.sizeOf27 rfl (v := .agg _) rfl (Hb.h (by repeat (first | assumption | exact Hb.newY _ _ | refine Hb.alloc ?_ | refine Hb.drew ?_ | refine Hb.ext (by assumption) ?_ | exact Hb.setSameL (by first | omega | (simp only [size_alloc, size_setB, size_drew]; omega)) | exact Hb.setSame (by assumption) | refine Hb.set (by first | omega | (simp only [size_alloc, size_setB, size_drew]; omega)) ?_ ))) rfl (by first | omega | assumption | rfl | decide | exact Nat.le_refl _ | (simp only [size_ic, Value.cells]; omega) | (simp; omega) | simp) (by first | omega | assumption | rfl | decide | exact Nat.le_refl _ | (simp only [size_ic, Value.cells]; omega) | (simp; omega) | simp) (by first | exact oneCell_ic | assumption | exact one_Ws2 _ | exact one_YA2 _ | exact one_YSl2 _ | exact one_YM2 _ | exact one_YT2 _ | exact one_L2 _) ?_ | refine WO_store Hvac.sizeOf27 rfl (v := .agg _) rfl (Hb.h (by repeat (first | assumption | exact Hb.newY _ _ | refine Hb.alloc ?_ | refine Hb.drew ?_ | refine Hb.ext (by assumption) ?_ | exact Hb.setSameL (by first | omega | (simp only [size_alloc, size_setB, size_drew]; omega)) | exact Hb.setSame (by assumption) | refine Hb.set (by first | omega | (simp only [size_alloc, size_setB, size_drew]; omega)) ?_ ))) (by first | omega | assumption | rfl | decide | exact Nat.le_refl _ | (simp only [size_ic, Value.cells]; omega) | (simp; omega) | simp) (by first | omega | assumption | rfl | decide | exact Nat.le_refl _ | (simp only [size_ic, Value.cells]; omega) | (simp; omega) | simp) (by first | exact oneCell_ic | assumption | exact one_Ws2 _ | exact one_YA2 _ | exact one_YSl2 _ | exact one_YM2 _ | exact one_YT2 _ | exact one_L2 _) ?_
      refine WO_nil ?_
      refine thn_normal ?_
      refine W_ret ?_
      refine bodyQ_cell1 Hvac.results141 rfl Hvac.isAgg27 Hvac.sizeOf27 rfl (Hb.h (by repeat (first | assumption | exact Hb.newY _ _ | refine Hb.alloc ?_ | refine Hb.drew ?_ | refine Hb.ext (by assumption) ?_ | exact Hb.setSameL (by first | omega | (simp only [size_alloc, size_setB, size_drew]; omega)) | exact Hb.setSame (by assumption) | refine Hb.set (by first | omega | (simp only [size_alloc, size_setB, size_drew]; omega)) ?_ ))) (by first | omega | assumption | rfl | decide | exact Nat.le_refl _ | (simp only [size_ic, Value.cells]; omega) | (simp; omega) | simp) ?_
      have hnd : L.length / 136 = nb := by omega
      have hks : L6 = khash L := ksum_of hL (A := lan L9) (fun j hj => by rw [hln9 j hj, hnd]; exact labs_congr hlnb (fun k hk => by rw [last_pad (L := L) (M := M) (n := n) (by omega) (by rw [hnd]; exact hMe) hMl hLe6 (by rw [hLe7]; congr 1; omega) hLe8 hk, hnd]) hj) hL6.1 (fun k hk => hby6 k (by omega))
      exact ⟨(by repeat (first | assumption | exact Ext.refl _ | refine Ext.alloc ?_ _ | refine Ext.drew ?_ | refine Ext.setB ?_ (by first | omega | (simp only [size_alloc, size_setB, size_drew]; omega)) _ | refine Ext.trans ?_ (by assumption))), by rw [← hks]; rfl, by rw [← hks]; exact hL6⟩

end Go.Proofs.YgvacwGreat
