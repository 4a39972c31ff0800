import Derived.Test.YgvadwGreatTl
namespace Go.Proofs.YgvadwGreat
set_option linter.unusedSimpArgs false
set_option linter.unusedVariables false
/-! the scale: what the check weighs -/
def encD (C Ba Bv na nv : Nat) (W : List Int) (q r k : Int) : Array Value :=
  ([Value.pointer (some ⟨C, 2435, none⟩), Value.slice (some ⟨Ba, 0, none⟩) na na, Value.slice (some ⟨Bv, 0, none⟩) nv nv] ++ W.map (Value.int .u64) ++ [Value.int .u64 q, Value.int .u64 r, Value.int .i64 k]).toArray
theorem four {W : List Int} (h : W.length = 4) : ∃ a b c d, W = [a, b, c, d] := by
  match W, h with
  | [a, b, c, d], _ => exact ⟨a, b, c, d, rfl⟩
section
variable {C Ba Bv na nv : Nat} {W X : List Int} {q r k x : Int}
theorem size_encD (h : W.length = 4) : (encD C Ba Bv na nv W q r k).size = 10 := by obtain ⟨a, b, c, d, rfl⟩ := four h; rfl
theorem ed0 : Ce (encD C Ba Bv na nv W q r k) (0 + 0) (.pointer (some ⟨C, 2435, none⟩)) := ⟨rfl⟩
theorem ed1 : Ce (encD C Ba Bv na nv W q r k) (0 + 1) (.slice (some ⟨Ba, 0, none⟩) na na) := ⟨rfl⟩
theorem ed2 : Ce (encD C Ba Bv na nv W q r k) (0 + 2) (.slice (some ⟨Bv, 0, none⟩) nv nv) := ⟨rfl⟩
theorem ed3 (h : W.length = 4) : Xt (encD C Ba Bv na nv W q r k) (0 + 3) (0 + 3 + 4) (ic .u64 W) := by obtain ⟨a, b, c, d, rfl⟩ := four h; exact ⟨rfl⟩
theorem ed7 (h : W.length = 4) : Ce (encD C Ba Bv na nv W q r k) (0 + 7) (.int .u64 q) := by obtain ⟨a, b, c, d, rfl⟩ := four h; exact ⟨rfl⟩
theorem ed8 (h : W.length = 4) : Ce (encD C Ba Bv na nv W q r k) (0 + 8) (.int .u64 r) := by obtain ⟨a, b, c, d, rfl⟩ := four h; exact ⟨rfl⟩
theorem ed9 (h : W.length = 4) : Ce (encD C Ba Bv na nv W q r k) (0 + 9) (.int .i64 k) := by obtain ⟨a, b, c, d, rfl⟩ := four h; exact ⟨rfl⟩
theorem ed_sum (h : W.length = 4) (hX : X.length = 4) : splice (encD C Ba Bv na nv W q r k) (0 + 3) (Value.agg (ic .u64 X)).cells.toList = encD C Ba Bv na nv X q r k := by
  obtain ⟨a, b, c, d, rfl⟩ := four h
  obtain ⟨a, b, c, d, rfl⟩ := four hX
  rfl
theorem ed_q (h : W.length = 4) : (encD C Ba Bv na nv W q r k).setIfInBounds (0 + 7) (.int .u64 x) = encD C Ba Bv na nv W x r k := by obtain ⟨a, b, c, d, rfl⟩ := four h; rfl
theorem ed_r (h : W.length = 4) : (encD C Ba Bv na nv W q r k).setIfInBounds (0 + 8) (.int .u64 x) = encD C Ba Bv na nv W q x k := by obtain ⟨a, b, c, d, rfl⟩ := four h; rfl
theorem ed_k (h : W.length = 4) : (encD C Ba Bv na nv W q r k).setIfInBounds (0 + 9) (.int .i64 x) = encD C Ba Bv na nv W q r x := by obtain ⟨a, b, c, d, rfl⟩ := four h; rfl
end
theorem flatW_len {l : List (List Int)} (h : ∀ x ∈ l, Wd x) : l.flatten.length = 4 * l.length := by
  induction l with
  | nil => rfl
  | cons x l ih => rw [List.flatten_cons, List.length_append, ih (fun y hy => h y (List.mem_cons_of_mem _ hy)), (h x List.mem_cons_self).1, List.length_cons]; omega
theorem flatW_get {l : List (List Int)} (h : ∀ x ∈ l, Wd x) : ∀ {i : Nat} {x : List Int}, l[i]? = some x → (l.flatten.drop (i * 4)).take 4 = x := by
  induction l with
  | nil => intro i x hx; simp at hx
  | cons y l ih =>
    intro i x hx
    have hy := (h y List.mem_cons_self).1
    cases i with
    | zero =>
      simp at hx; subst hx
      rw [List.flatten_cons, Nat.zero_mul, List.drop_zero, List.take_append_of_le_length (by omega), List.take_of_length_le (by omega)]
    | succ i =>
      rw [List.flatten_cons, List.drop_append, List.drop_eq_nil_of_le (by omega), List.nil_append, hy, show (i + 1) * 4 - 4 = i * 4 by omega]
      exact ih (fun z hz => h z (List.mem_cons_of_mem _ hz)) (by simpa using hx)
theorem flat_set {l : List (List Int)} (h : ∀ x ∈ l, Wd x) : ∀ {i : Nat} {x : List Int}, i < l.length → x.length = 4 → l.flatten.take (i * 4) ++ x ++ l.flatten.drop (i * 4 + x.length) = (l.set i x).flatten := by
  induction l with
  | nil => intro i x hi; simp at hi
  | cons y l ih =>
    intro i x hi hx
    have hy := (h y List.mem_cons_self).1
    cases i with
    | zero =>
      rw [List.flatten_cons, Nat.zero_mul, List.take_zero, List.nil_append, hx, List.drop_append, List.drop_eq_nil_of_le (by omega), List.nil_append, hy, List.set_cons_zero, List.flatten_cons]; rfl
    | succ i =>
      rw [List.flatten_cons, List.take_append, List.take_of_length_le (by omega), List.drop_append, List.drop_eq_nil_of_le (by omega), List.nil_append, hy, show (i + 1) * 4 - 4 = i * 4 by omega, show (i + 1) * 4 + x.length - 4 = i * 4 + x.length by omega, List.append_assoc, List.append_assoc, ← List.append_assoc (l.flatten.take (i * 4)), ih (fun z hz => h z (List.mem_cons_of_mem _ hz)) (by simpa using hi) hx]
      simp
theorem wr_xt {l : List (List Int)} (h : ∀ x ∈ l, Wd x) {i : Nat} {x : List Int} (hx : l[i]? = some x) : Xt (ic .u64 l.flatten) (0 + i * 4) (0 + i * 4 + 4) (ic .u64 x) := by
  have hi := lt_of_getElem? hx
  have hl := flatW_len h
  have := Xt.ic .u64 l.flatten (0 + i * 4) 4 (by omega)
  rwa [Nat.zero_add, flatW_get h hx] at *
theorem wr_set {l : List (List Int)} (h : ∀ x ∈ l, Wd x) {i : Nat} {x : List Int} (hi : i < l.length) (hx : x.length = 4) : splice (ic .u64 l.flatten) (0 + i * 4) (Value.agg (ic .u64 x)).cells.toList = ic .u64 (l.set i x).flatten := by
  have hl := flatW_len h
  rw [Nat.zero_add, show (Value.agg (ic .u64 x)).cells.toList = x.map (Value.int .u64) from by simp [Value.cells, ic], splice_ic _ _ _ _ (by omega), flat_set h hi hx]
/-- how the scale lies: T the sum, r the refund counter, k the count of cleared slots -/
structure SRep (w w' : World) (C D Ba Bv : Nat) (bl vl : List (List Int)) (T r k : Int) : Prop where
  ext : Ext w w'
  d : w.heap.size ≤ D
  a : w.heap.size ≤ Ba
  b : w.heap.size ≤ Bv
  ne : D ≠ Ba ∧ D ≠ Bv ∧ Ba ≠ Bv
  ex : ∃ W q, Wd W ∧ 0 ≤ q ∧ wv W + q * 115792089237316195423570985008687907853269984665640564039457584007913129639936 = T ∧ Hb w' D (.cells (encD C Ba Bv bl.length vl.length W q r k) 271 (0, 0))
  hb : Hb w' Ba (.cells (ic .u64 bl.flatten) 59 (0, 0))
  hv : Hb w' Bv (.cells (ic .u64 vl.flatten) 59 (0, 0))
  bw : ∀ x ∈ bl, Wd x
  vw : ∀ x ∈ vl, Wd x
  la : bl.length ≤ 2560
  lv : vl.length ≤ 2560
theorem SRep.extR {w w' w2 : World} {C D Ba Bv : Nat} {bl vl : List (List Int)} {T r k : Int} (h : SRep w w' C D Ba Bv bl vl T r k) (he : Ext w' w2) : SRep w w2 C D Ba Bv bl vl T r k := by
  obtain ⟨W, q, h1, h2, h3, h4⟩ := h.ex
  exact { h with ext := h.ext.trans he, ex := ⟨W, q, h1, h2, h3, Hb.ext he h4⟩, hb := Hb.ext he h.hb, hv := Hb.ext he h.hv }
/-- only the scale's blocks are written -/
abbrev KD (D Ba Bv : Nat) (w w' : World) : Prop := KeepO (fun x => x = D ∨ x = Ba ∨ x = Bv) w w'
theorem KeepO.dr {O : Nat → Prop} {a b : World} (h : KeepO O a b) : KeepO O a b.drew := h.extR (Ext.drew (Ext.refl _))
theorem KeepO.tr {O : Nat → Prop} {a b c : World} (h : KeepO O a b) (h' : KeepO O b c) : KeepO O a c := h.trans h' (fun _ _ h => h)
theorem KeepO.hb {O : Nat → Prop} {a b : World} (h : KeepO O a b) {x : Nat} {o : Obj} (hb : Hb a x o) (hx : ¬ O x) : Hb b x o := by
  refine Hb.mk ?_
  have := h.2 x hb.lt hx
  rw [this]; exact hb.h

set_option maxRecDepth 10000 in
set_option maxHeartbeats 4000000 in
theorem sTotal_spec (C D Ba Bv : Nat) (bl vl : List (List Int)) (T r k : Int) (w w9 : World) (hs : SRep w w9 C D Ba Bv bl vl T r k) : Ret Hvad.prog 232 #[.pointer (some ⟨D, 0, none⟩)] w9 fun u w' => Ext w9 w' ∧ ∃ W q, Wd W ∧ 0 ≤ q ∧ wv W + q * 115792089237316195423570985008687907853269984665640564039457584007913129639936 = T ∧ u = .tuple #[.agg (ic .u64 W), .bool (decide (q = 0))] := by
  obtain ⟨hE9, hDg, hAg, hBg, ⟨hn1, hn2, hn3⟩, ⟨W, q, hW, hq0, hsum, hHD⟩, hHA, hHV, hbw, hvw, hla, hlv⟩ := hs
  have hWl := hW.1
  have hWb := wv_bd hW
  have hDl := hHD.lt
  have hAl := hHA.lt
  have hVl := hHV.lt
  have hz9 := hE9.1
  have hsz : (encD C Ba Bv bl.length vl.length W q r k).size = 10 := size_encD hWl
  refine Ret_of_W Hvad.func232 rfl rfl ?_
  refine W_seq ?_
  refine W_region rfl ?_
  refine WO_allocG Hvad.zeroValue59 ?_
  intro b2 v2 hg2 hE2 hH2 hl2
  try simp only [size_alloc, size_setB, size_drew] at hg2
  have hzz2 := hE2.1
  try simp only [size_alloc, size_setB, size_drew] at hzz2
  replace hH2 : Hb v2 b2 (.cells (ic .u64 [0, 0, 0, 0]) 59 (0, 0)) := hH2
  refine WO_p (PS_assign_bool rfl) ?_
  refine WO_nil ?_
  refine thn_normal ?_
  refine W_seq ?_
  refine W_drawT [false, false, false, false, false, false, false, false, false, true, false] (Ext w9) hmix (by kernel_rfl) rfl ((by repeat (first | assumption | exact Ext.refl _ | refine Ext.alloc ?_ _ | refine Ext.drew ?_ | refine Ext.setB ?_ (by first | omega | (simp only [size_alloc, size_setB, size_drew]; omega)) _ | exact Ext.trans (by assumption) (by assumption) | refine Ext.trans ?_ (by assumption)))) ?_
  refine WH_p (PS_move_ptr rfl) rfl ?_
  refine WH_p (PS_nilCheck rfl) rfl ?_
  refine WH_p (PS_fieldAddr 3 Hvad.runUnderlying271 rfl Hvad.sizeOf59 rfl rfl) rfl ?_
  refine WH_loadA _ Hvad.isAgg59 Hvad.sizeOf59 rfl (Hb.h (by repeat (first | assumption | exact Hb.newY _ _ | refine Hb.alloc ?_ | refine Hb.drew ?_ | refine Hb.ext (by assumption) ?_ | exact Hb.setSameL (by first | omega | (simp only [size_alloc, size_setB, size_drew]; omega)) | exact Hb.setSame (by assumption) | refine Hb.set (by first | omega | (simp only [size_alloc, size_setB, size_drew]; omega)) ?_ ))) (by first | omega | assumption | rfl | decide | exact Nat.le_refl _ | (simp only [size_ic, Value.cells]; omega) | simp) (Xt.h (by first | assumption | exact Xt.whole rfl rfl | exact ed3 (by assumption) | exact Xt.whole rfl (by simp only [size_ic, Value.cells]; omega) | exact ⟨rfl⟩)) ?_
  refine WH_p (PS_move_ptr rfl) rfl ?_
  refine WH_p (PS_nilCheck rfl) rfl ?_
  refine WH_p (PS_fieldAddr 7 Hvad.runUnderlying271 rfl Hvad.sizeOf26 rfl rfl) rfl ?_
  refine WH_load (.int _ _) Hvad.isAgg26 rfl (Hb.h (by repeat (first | assumption | exact Hb.newY _ _ | refine Hb.alloc ?_ | refine Hb.drew ?_ | refine Hb.ext (by assumption) ?_ | exact Hb.setSameL (by first | omega | (simp only [size_alloc, size_setB, size_drew]; omega)) | exact Hb.setSame (by assumption) | refine Hb.set (by first | omega | (simp only [size_alloc, size_setB, size_drew]; omega)) ?_ ))) (Ce.h (by first | assumption | exact ed0 | exact ed1 | exact ed2 | exact ed7 (by assumption) | exact ed8 (by assumption) | exact ed9 (by assumption) | exact ⟨rfl⟩)) ?_
  refine WH_p (PS_eql rfl rfl) rfl ?_
  first | refine WH_storeW Hvad.sizeOf59 rfl (v := .agg _) rfl (Hb.h (by repeat (first | assumption | exact Hb.newY _ _ | refine Hb.alloc ?_ | refine Hb.drew ?_ | refine Hb.ext (by assumption) ?_ | exact Hb.setSameL (by first | omega | (simp only [size_alloc, size_setB, size_drew]; omega)) | exact Hb.setSame (by assumption) | refine Hb.set (by first | omega | (simp only [size_alloc, size_setB, size_drew]; omega)) ?_ ))) rfl (by first | omega | assumption | rfl | decide | exact Nat.le_refl _ | (simp only [size_ic, Value.cells]; omega) | simp) (by first | omega | assumption | rfl | decide | exact Nat.le_refl _ | (simp only [size_ic, Value.cells]; omega) | simp) (by first | exact oneCell_ic | assumption) (fun _ => (by repeat (first | assumption | exact Ext.refl _ | refine Ext.alloc ?_ _ | refine Ext.drew ?_ | refine Ext.setB ?_ (by first | omega | (simp only [size_alloc, size_setB, size_drew]; omega)) _ | exact Ext.trans (by assumption) (by assumption) | refine Ext.trans ?_ (by assumption)))) ?_ | refine WH_store Hvad.sizeOf59 rfl (v := .agg _) rfl (Hb.h (by repeat (first | assumption | exact Hb.newY _ _ | refine Hb.alloc ?_ | refine Hb.drew ?_ | refine Hb.ext (by assumption) ?_ | exact Hb.setSameL (by first | omega | (simp only [size_alloc, size_setB, size_drew]; omega)) | exact Hb.setSame (by assumption) | refine Hb.set (by first | omega | (simp only [size_alloc, size_setB, size_drew]; omega)) ?_ ))) (by first | omega | assumption | rfl | decide | exact Nat.le_refl _ | (simp only [size_ic, Value.cells]; omega) | simp) (by first | omega | assumption | rfl | decide | exact Nat.le_refl _ | (simp only [size_ic, Value.cells]; omega) | simp) (by first | exact oneCell_ic | assumption) (fun _ => (by repeat (first | assumption | exact Ext.refl _ | refine Ext.alloc ?_ _ | refine Ext.drew ?_ | refine Ext.setB ?_ (by first | omega | (simp only [size_alloc, size_setB, size_drew]; omega)) _ | exact Ext.trans (by assumption) (by assumption) | refine Ext.trans ?_ (by assumption)))) ?_
  refine WH_p (PS_assign_bool rfl) rfl ?_
  refine WH_nil ?_
  refine thn_normal ?_
  refine W_ret ?_
  refine bodyQ_cellT (.bool _) Hvad.results232 rfl rfl Hvad.isAgg59 Hvad.sizeOf59 rfl (Hb.h (by repeat (first | assumption | exact Hb.newY _ _ | refine Hb.alloc ?_ | refine Hb.drew ?_ | refine Hb.ext (by assumption) ?_ | exact Hb.setSameL (by first | omega | (simp only [size_alloc, size_setB, size_drew]; omega)) | exact Hb.setSame (by assumption) | refine Hb.set (by first | omega | (simp only [size_alloc, size_setB, size_drew]; omega)) ?_ ))) (by first | omega | assumption | rfl | decide | exact Nat.le_refl _ | (simp only [size_ic, Value.cells]; omega) | simp) rfl ?_
  exact ⟨(by repeat (first | assumption | exact Ext.refl _ | refine Ext.alloc ?_ _ | refine Ext.drew ?_ | refine Ext.setB ?_ (by first | omega | (simp only [size_alloc, size_setB, size_drew]; omega)) _ | refine Ext.trans ?_ (by assumption))), W, q, hW, hq0, hsum, rfl⟩

set_option maxRecDepth 10000 in
set_option maxHeartbeats 4000000 in
theorem sAdd_spec (C D Ba Bv : Nat) (bl vl : List (List Int)) (T r k : Int) (x : List Int) (w w9 : World) (hs : SRep w w9 C D Ba Bv bl vl T r k) (hx : Wd x) (hT : T ≤ 5000 * 115792089237316195423570985008687907853269984665640564039457584007913129639936) : Ret Hvad.prog 272 #[.pointer (some ⟨D, 0, none⟩), .agg (ic .u64 x)] w9 fun _ w' => SRep w w' C D Ba Bv bl vl (T + wv x) r k ∧ KD D Ba Bv w9 w' := by
  obtain ⟨hE9, hDg, hAg, hBg, ⟨hn1, hn2, hn3⟩, ⟨W, q, hW, hq0, hsum, hHD⟩, hHA, hHV, hbw, hvw, hla, hlv⟩ := hs
  have hWl := hW.1
  have hWb := wv_bd hW
  have hDl := hHD.lt
  have hAl := hHA.lt
  have hVl := hHV.lt
  have hz9 := hE9.1
  have hsz : (encD C Ba Bv bl.length vl.length W q r k).size = 10 := size_encD hWl
  have hxb := wv_bd hx
  have hxl := hx.1
  have hoW := ofV_wd ((wv W + wv x) % 115792089237316195423570985008687907853269984665640564039457584007913129639936)
  have hol := hoW.1
  have hov : wv (ofV ((wv W + wv x) % 115792089237316195423570985008687907853269984665640564039457584007913129639936)) = (wv W + wv x) % 115792089237316195423570985008687907853269984665640564039457584007913129639936 := wv_ofV (by omega) (by omega)
  refine Ret_of_W Hvad.func272 rfl rfl ?_
  refine W_seq ?_
  refine W_region rfl ?_
  refine WO_boxG (.agg _) rfl ?_
  intro b3 v3 hg3 hE3 hH3 hl3
  try simp only [size_alloc, size_setB, size_drew] at hg3
  have hzz3 := hE3.1
  try simp only [size_alloc, size_setB, size_drew] at hzz3
  refine WO_nil ?_
  refine thn_normal ?_
  refine W_seq ?_
  refine W_drawF [false, false, false, false, false, false, false, false, false, true, false, false] [9] [0, 1, 2, 3, 4, 5, 6, 7, 8, 10, 11] hmix (by kernel_rfl) rfl rfl rfl ?_
  refine F_q (i := 0) rfl (by kernel_rfl) ?_
  refine WH_p (PS_move_ptr rfl) rfl ?_
  refine WH_nil ?_
  refine F_q (i := 1) rfl (by kernel_rfl) ?_
  refine WH_p (PS_nilCheck rfl) rfl ?_
  refine WH_nil ?_
  refine F_q (i := 2) rfl (by kernel_rfl) ?_
  refine WH_p (PS_fieldAddr 3 Hvad.runUnderlying271 rfl Hvad.sizeOf59 rfl rfl) rfl ?_
  refine WH_nil ?_
  refine F_q (i := 3) rfl (by kernel_rfl) ?_
  refine WH_loadA _ Hvad.isAgg59 Hvad.sizeOf59 rfl (Hb.h (by repeat (first | assumption | exact Hb.newY _ _ | refine Hb.alloc ?_ | refine Hb.drew ?_ | refine Hb.ext (by assumption) ?_ | exact Hb.setSameL (by first | omega | (simp only [size_alloc, size_setB, size_drew]; omega)) | exact Hb.setSame (by assumption) | refine Hb.set (by first | omega | (simp only [size_alloc, size_setB, size_drew]; omega)) ?_ ))) (by first | omega | assumption | rfl | decide | exact Nat.le_refl _ | (simp only [size_ic, Value.cells]; omega) | simp) (Xt.h (by first | assumption | exact Xt.whole rfl rfl | exact ed3 (by assumption) | exact Xt.whole rfl (by simp only [size_ic, Value.cells]; omega) | exact ⟨rfl⟩)) ?_
  refine WH_nil ?_
  refine F_q (i := 4) rfl (by kernel_rfl) ?_
  refine WH_loadA _ Hvad.isAgg59 Hvad.sizeOf59 rfl (Hb.h (by repeat (first | assumption | exact Hb.newY _ _ | refine Hb.alloc ?_ | refine Hb.drew ?_ | refine Hb.ext (by assumption) ?_ | exact Hb.setSameL (by first | omega | (simp only [size_alloc, size_setB, size_drew]; omega)) | exact Hb.setSame (by assumption) | refine Hb.set (by first | omega | (simp only [size_alloc, size_setB, size_drew]; omega)) ?_ ))) (by first | omega | assumption | rfl | decide | exact Nat.le_refl _ | (simp only [size_ic, Value.cells]; omega) | simp) (Xt.h (by first | assumption | exact Xt.whole rfl rfl | exact ed3 (by assumption) | exact Xt.whole rfl (by simp only [size_ic, Value.cells]; omega) | exact ⟨rfl⟩)) ?_
  refine WH_nil ?_
  refine F_fork1 (i := 5) rfl rfl ?_ ?_
  · refine WH_call Hvad.call65 (by rfl) (Ret.mono (addOver_spec W x _ hW hx) ?_)
    rintro _ w65_0 ⟨rfl, hE65_0⟩
    refine ⟨(fun h => by cases h), ?_⟩
    have hz65_0 := hE65_0.1
    try simp only [size_alloc, size_setB, size_drew] at hz65_0
    refine WH_nil ?_
    refine F_q (i := 6) rfl (by kernel_rfl) ?_
    refine WH_p (PS_move_tuple rfl) rfl ?_
    refine WH_nil ?_
    refine F_q (i := 7) rfl (by kernel_rfl) ?_
    refine WH_p (PS_extract_agg rfl rfl) rfl ?_
    refine WH_nil ?_
    refine F_q (i := 8) rfl (by kernel_rfl) ?_
    refine WH_p (PS_extract_bool rfl rfl) rfl ?_
    refine WH_nil ?_
    refine F_fork1B (i := 10) (by kernel_rfl) rfl ?_
    · refine WH_allocG Hvad.zeroValue59 ?_
      intro b4 v4 hg4 hE4 hH4 hl4
      try simp only [size_alloc, size_setB, size_drew] at hg4
      have hzz4 := hE4.1
      try simp only [size_alloc, size_setB, size_drew] at hzz4
      replace hH4 : Hb v4 b4 (.cells (ic .u64 [0, 0, 0, 0]) 59 (0, 0)) := hH4
      refine ⟨fun _ => (by repeat (first | assumption | exact Ext.refl _ | refine Ext.alloc ?_ _ | refine Ext.drew ?_ | refine Ext.setB ?_ (by first | omega | (simp only [size_alloc, size_setB, size_drew]; omega)) _ | exact Ext.trans (by assumption) (by assumption) | refine Ext.trans ?_ (by assumption))), ?_⟩
      refine WH_nil ?_
      refine F_q (i := 10) rfl (by kernel_rfl) ?_
      first | refine WH_storeW Hvad.sizeOf59 rfl (v := .agg _) rfl (Hb.h (by repeat (first | assumption | exact Hb.newY _ _ | refine Hb.alloc ?_ | refine Hb.drew ?_ | refine Hb.ext (by assumption) ?_ | exact Hb.setSameL (by first | omega | (simp only [size_alloc, size_setB, size_drew]; omega)) | exact Hb.setSame (by assumption) | refine Hb.set (by first | omega | (simp only [size_alloc, size_setB, size_drew]; omega)) ?_ ))) rfl (by first | omega | assumption | rfl | decide | exact Nat.le_refl _ | (simp only [size_ic, Value.cells]; omega) | simp) (by first | omega | assumption | rfl | decide | exact Nat.le_refl _ | (simp only [size_ic, Value.cells]; omega) | simp) (by first | exact oneCell_ic | assumption) (fun h => by cases h) ?_ | refine WH_store Hvad.sizeOf59 rfl (v := .agg _) rfl (Hb.h (by repeat (first | assumption | exact Hb.newY _ _ | refine Hb.alloc ?_ | refine Hb.drew ?_ | refine Hb.ext (by assumption) ?_ | exact Hb.setSameL (by first | omega | (simp only [size_alloc, size_setB, size_drew]; omega)) | exact Hb.setSame (by assumption) | refine Hb.set (by first | omega | (simp only [size_alloc, size_setB, size_drew]; omega)) ?_ ))) (by first | omega | assumption | rfl | decide | exact Nat.le_refl _ | (simp only [size_ic, Value.cells]; omega) | simp) (by first | omega | assumption | rfl | decide | exact Nat.le_refl _ | (simp only [size_ic, Value.cells]; omega) | simp) (by first | exact oneCell_ic | assumption) (fun h => by cases h) ?_
      refine WH_nil ?_
      refine F_q (i := 11) rfl (by kernel_rfl) ?_
      refine WH_p (PS_assign_bool rfl) rfl ?_
      refine WH_nil ?_
      refine F_end ?_
      refine thn_normal ?_
      refine W_seq ?_
      refine W_region rfl ?_
      refine WO_p (PS_move_ptr rfl) ?_
      refine WO_loadA _ Hvad.isAgg59 Hvad.sizeOf59 rfl (Hb.h (by repeat (first | assumption | exact Hb.newY _ _ | refine Hb.alloc ?_ | refine Hb.drew ?_ | refine Hb.ext (by assumption) ?_ | exact Hb.setSameL (by first | omega | (simp only [size_alloc, size_setB, size_drew]; omega)) | exact Hb.setSame (by assumption) | refine Hb.set (by first | omega | (simp only [size_alloc, size_setB, size_drew]; omega)) ?_ ))) (by first | omega | assumption | rfl | decide | exact Nat.le_refl _ | (simp only [size_ic, Value.cells]; omega) | simp) (Xt.h (by first | assumption | exact Xt.whole rfl rfl | exact ed3 (by assumption) | exact Xt.whole rfl (by simp only [size_ic, Value.cells]; omega) | exact ⟨rfl⟩)) ?_
      refine WO_p (PS_nilCheck rfl) ?_
      refine WO_p (PS_fieldAddr 3 Hvad.runUnderlying271 rfl Hvad.sizeOf59 rfl rfl) ?_
      refine WO_store Hvad.sizeOf59 rfl (v := .agg (ic .u64 (ofV ((wv W + wv x) % 115792089237316195423570985008687907853269984665640564039457584007913129639936)))) rfl (Hb.h (by repeat (first | assumption | exact Hb.newY _ _ | refine Hb.alloc ?_ | refine Hb.drew ?_ | refine Hb.ext (by assumption) ?_ | exact Hb.setSameL (by first | omega | (simp only [size_alloc, size_setB, size_drew]; omega)) | exact Hb.setSame (by assumption) | refine Hb.set (by first | omega | (simp only [size_alloc, size_setB, size_drew]; omega)) ?_ ))) (by first | omega | assumption | rfl | decide | exact Nat.le_refl _ | (simp only [size_ic, Value.cells]; omega) | simp) (by rw [size_encD hWl]; decide) (by first | exact oneCell_ic | assumption) ?_
      rw [ed_sum hWl hol]
      refine WO_nil ?_
      refine thn_normal ?_
      refine W_seq ?_
      refine W_region rfl ?_
      refine WO_p (PS_move_bool rfl) ?_
      refine WO_nil ?_
      refine thn_normal ?_
      refine W_if rfl (fun hb3 => ?_) (fun hb3 => ?_)
      · have hb3p := hb3.h; try simp only [al_ete, al_dfn, Bool.not_eq_true', Bool.not_eq_false', al_ne, Bool.not_not, al_nn] at hb3p
        refine W_region rfl ?_
        refine WO_p (PS_move_ptr rfl) ?_
        refine WO_p (PS_nilCheck rfl) ?_
        refine WO_p (PS_fieldAddr 7 Hvad.runUnderlying271 rfl Hvad.sizeOf26 rfl rfl) ?_
        refine WO_load (.int _ _) Hvad.isAgg26 rfl (Hb.h (by repeat (first | assumption | exact Hb.newY _ _ | refine Hb.alloc ?_ | refine Hb.drew ?_ | refine Hb.ext (by assumption) ?_ | exact Hb.setSameL (by first | omega | (simp only [size_alloc, size_setB, size_drew]; omega)) | exact Hb.setSame (by assumption) | refine Hb.set (by first | omega | (simp only [size_alloc, size_setB, size_drew]; omega)) ?_ ))) (Ce.h (by first | assumption | exact ed0 | exact ed1 | exact ed2 | exact ed7 (by assumption) | exact ed8 (by assumption) | exact ed9 (by assumption) | exact ⟨rfl⟩)) ?_
        refine WO_p (PS_add_u64n rfl rfl (by omega) (by omega)) ?_
        refine WO_p (PS_nilCheck rfl) ?_
        refine WO_p (PS_fieldAddr 7 Hvad.runUnderlying271 rfl Hvad.sizeOf26 rfl rfl) ?_
        refine WO_store1 Hvad.sizeOf26 rfl (v := .int _ _) rfl (Hb.h (by repeat (first | assumption | exact Hb.newY _ _ | refine Hb.alloc ?_ | refine Hb.drew ?_ | refine Hb.ext (by assumption) ?_ | exact Hb.setSameL (by first | omega | (simp only [size_alloc, size_setB, size_drew]; omega)) | exact Hb.setSame (by assumption) | refine Hb.set (by first | omega | (simp only [size_alloc, size_setB, size_drew]; omega)) ?_ ))) rfl (by rw [size_encD (by assumption)]; decide) rfl ?_
        rw [ed_q (by assumption)]
        refine WO_nil ?_
        first | refine bodyQ_ret0 Hvad.results272 ?_ | refine bodyQ_end0 Hvad.results272 ?_
        exact ⟨⟨(by repeat (first | assumption | exact Ext.refl _ | refine Ext.alloc ?_ _ | refine Ext.drew ?_ | refine Ext.setB ?_ (by first | omega | (simp only [size_alloc, size_setB, size_drew]; omega)) _ | refine Ext.trans ?_ (by assumption))), hDg, hAg, hBg, ⟨hn1, hn2, hn3⟩, ⟨_, q + 1, hoW, by omega, by rw [hov]; omega, Hb.mk (Hb.h (by repeat (first | assumption | exact Hb.newY _ _ | refine Hb.alloc ?_ | refine Hb.drew ?_ | refine Hb.ext (by assumption) ?_ | exact Hb.setSameL (by first | omega | (simp only [size_alloc, size_setB, size_drew]; omega)) | exact Hb.setSame (by assumption) | refine Hb.set (by first | omega | (simp only [size_alloc, size_setB, size_drew]; omega)) ?_ )))⟩, Hb.mk (Hb.h (by repeat (first | assumption | exact Hb.newY _ _ | refine Hb.alloc ?_ | refine Hb.drew ?_ | refine Hb.ext (by assumption) ?_ | exact Hb.setSameL (by first | omega | (simp only [size_alloc, size_setB, size_drew]; omega)) | exact Hb.setSame (by assumption) | refine Hb.set (by first | omega | (simp only [size_alloc, size_setB, size_drew]; omega)) ?_ ))), Hb.mk (Hb.h (by repeat (first | assumption | exact Hb.newY _ _ | refine Hb.alloc ?_ | refine Hb.drew ?_ | refine Hb.ext (by assumption) ?_ | exact Hb.setSameL (by first | omega | (simp only [size_alloc, size_setB, size_drew]; omega)) | exact Hb.setSame (by assumption) | refine Hb.set (by first | omega | (simp only [size_alloc, size_setB, size_drew]; omega)) ?_ ))), hbw, hvw, hla, hlv⟩, by (repeat (first | assumption | exact KeepO.refl _ _ | refine KeepO.alloc ?_ _ | refine KeepO.dr ?_ | refine KeepO.setB ?_ (by intro hlt; first | exact Or.inl rfl | exact Or.inr (Or.inl rfl) | exact Or.inr (Or.inr rfl) | (exfalso; omega) | (exfalso; simp only [size_alloc, size_setB, size_drew] at hlt; omega)) _ | refine KeepO.tr ?_ (by assumption) | refine KeepO.extR ?_ (by assumption)))⟩
      · have hb3p := hb3.h; try simp only [al_ete, al_dfn, Bool.not_eq_true', Bool.not_eq_false', al_ne, Bool.not_not, al_nn] at hb3p
        refine W_skip ?_
        first | refine bodyQ_ret0 Hvad.results272 ?_ | refine bodyQ_end0 Hvad.results272 ?_
        exact ⟨⟨(by repeat (first | assumption | exact Ext.refl _ | refine Ext.alloc ?_ _ | refine Ext.drew ?_ | refine Ext.setB ?_ (by first | omega | (simp only [size_alloc, size_setB, size_drew]; omega)) _ | refine Ext.trans ?_ (by assumption))), hDg, hAg, hBg, ⟨hn1, hn2, hn3⟩, ⟨_, q, hoW, by omega, by rw [hov]; omega, Hb.mk (Hb.h (by repeat (first | assumption | exact Hb.newY _ _ | refine Hb.alloc ?_ | refine Hb.drew ?_ | refine Hb.ext (by assumption) ?_ | exact Hb.setSameL (by first | omega | (simp only [size_alloc, size_setB, size_drew]; omega)) | exact Hb.setSame (by assumption) | refine Hb.set (by first | omega | (simp only [size_alloc, size_setB, size_drew]; omega)) ?_ )))⟩, Hb.mk (Hb.h (by repeat (first | assumption | exact Hb.newY _ _ | refine Hb.alloc ?_ | refine Hb.drew ?_ | refine Hb.ext (by assumption) ?_ | exact Hb.setSameL (by first | omega | (simp only [size_alloc, size_setB, size_drew]; omega)) | exact Hb.setSame (by assumption) | refine Hb.set (by first | omega | (simp only [size_alloc, size_setB, size_drew]; omega)) ?_ ))), Hb.mk (Hb.h (by repeat (first | assumption | exact Hb.newY _ _ | refine Hb.alloc ?_ | refine Hb.drew ?_ | refine Hb.ext (by assumption) ?_ | exact Hb.setSameL (by first | omega | (simp only [size_alloc, size_setB, size_drew]; omega)) | exact Hb.setSame (by assumption) | refine Hb.set (by first | omega | (simp only [size_alloc, size_setB, size_drew]; omega)) ?_ ))), hbw, hvw, hla, hlv⟩, by (repeat (first | assumption | exact KeepO.refl _ _ | refine KeepO.alloc ?_ _ | refine KeepO.dr ?_ | refine KeepO.setB ?_ (by intro hlt; first | exact Or.inl rfl | exact Or.inr (Or.inl rfl) | exact Or.inr (Or.inr rfl) | (exfalso; omega) | (exfalso; simp only [size_alloc, size_setB, size_drew] at hlt; omega)) _ | refine KeepO.tr ?_ (by assumption) | refine KeepO.extR ?_ (by assumption)))⟩
  · refine WH_allocG Hvad.zeroValue59 ?_
    intro b4 v4 hg4 hE4 hH4 hl4
    try simp only [size_alloc, size_setB, size_drew] at hg4
    have hzz4 := hE4.1
    try simp only [size_alloc, size_setB, size_drew] at hzz4
    replace hH4 : Hb v4 b4 (.cells (ic .u64 [0, 0, 0, 0]) 59 (0, 0)) := hH4
    refine ⟨fun _ => (by repeat (first | assumption | exact Ext.refl _ | refine Ext.alloc ?_ _ | refine Ext.drew ?_ | refine Ext.setB ?_ (by first | omega | (simp only [size_alloc, size_setB, size_drew]; omega)) _ | exact Ext.trans (by assumption) (by assumption) | refine Ext.trans ?_ (by assumption))), ?_⟩
    refine WH_nil ?_
    refine F_q (i := 5) rfl (by kernel_rfl) ?_
    refine WH_call Hvad.call65 (by rfl) (Ret.mono (addOver_spec W x _ hW hx) ?_)
    rintro _ w65_3 ⟨rfl, hE65_3⟩
    refine ⟨(fun h => by cases h), ?_⟩
    have hz65_3 := hE65_3.1
    try simp only [size_alloc, size_setB, size_drew] at hz65_3
    refine WH_nil ?_
    refine F_q (i := 6) rfl (by kernel_rfl) ?_
    refine WH_p (PS_move_tuple rfl) rfl ?_
    refine WH_nil ?_
    refine F_q (i := 7) rfl (by kernel_rfl) ?_
    refine WH_p (PS_extract_agg rfl rfl) rfl ?_
    refine WH_nil ?_
    refine F_q (i := 8) rfl (by kernel_rfl) ?_
    refine WH_p (PS_extract_bool rfl rfl) rfl ?_
    refine WH_nil ?_
    refine F_q (i := 10) rfl (by kernel_rfl) ?_
    first | refine WH_storeW Hvad.sizeOf59 rfl (v := .agg _) rfl (Hb.h (by repeat (first | assumption | exact Hb.newY _ _ | refine Hb.alloc ?_ | refine Hb.drew ?_ | refine Hb.ext (by assumption) ?_ | exact Hb.setSameL (by first | omega | (simp only [size_alloc, size_setB, size_drew]; omega)) | exact Hb.setSame (by assumption) | refine Hb.set (by first | omega | (simp only [size_alloc, size_setB, size_drew]; omega)) ?_ ))) rfl (by first | omega | assumption | rfl | decide | exact Nat.le_refl _ | (simp only [size_ic, Value.cells]; omega) | simp) (by first | omega | assumption | rfl | decide | exact Nat.le_refl _ | (simp only [size_ic, Value.cells]; omega) | simp) (by first | exact oneCell_ic | assumption) (fun h => by cases h) ?_ | refine WH_store Hvad.sizeOf59 rfl (v := .agg _) rfl (Hb.h (by repeat (first | assumption | exact Hb.newY _ _ | refine Hb.alloc ?_ | refine Hb.drew ?_ | refine Hb.ext (by assumption) ?_ | exact Hb.setSameL (by first | omega | (simp only [size_alloc, size_setB, size_drew]; omega)) | exact Hb.setSame (by assumption) | refine Hb.set (by first | omega | (simp only [size_alloc, size_setB, size_drew]; omega)) ?_ ))) (by first | omega | assumption | rfl | decide | exact Nat.le_refl _ | (simp only [size_ic, Value.cells]; omega) | simp) (by first | omega | assumption | rfl | decide | exact Nat.le_refl _ | (simp only [size_ic, Value.cells]; omega) | simp) (by first | exact oneCell_ic | assumption) (fun h => by cases h) ?_
    refine WH_nil ?_
    refine F_q (i := 11) rfl (by kernel_rfl) ?_
    refine WH_p (PS_assign_bool rfl) rfl ?_
    refine WH_nil ?_
    refine F_end ?_
    refine thn_normal ?_
    refine W_seq ?_
    refine W_region rfl ?_
    refine WO_p (PS_move_ptr rfl) ?_
    refine WO_loadA _ Hvad.isAgg59 Hvad.sizeOf59 rfl (Hb.h (by repeat (first | assumption | exact Hb.newY _ _ | refine Hb.alloc ?_ | refine Hb.drew ?_ | refine Hb.ext (by assumption) ?_ | exact Hb.setSameL (by first | omega | (simp only [size_alloc, size_setB, size_drew]; omega)) | exact Hb.setSame (by assumption) | refine Hb.set (by first | omega | (simp only [size_alloc, size_setB, size_drew]; omega)) ?_ ))) (by first | omega | assumption | rfl | decide | exact Nat.le_refl _ | (simp only [size_ic, Value.cells]; omega) | simp) (Xt.h (by first | assumption | exact Xt.whole rfl rfl | exact ed3 (by assumption) | exact Xt.whole rfl (by simp only [size_ic, Value.cells]; omega) | exact ⟨rfl⟩)) ?_
    refine WO_p (PS_nilCheck rfl) ?_
    refine WO_p (PS_fieldAddr 3 Hvad.runUnderlying271 rfl Hvad.sizeOf59 rfl rfl) ?_
    refine WO_store Hvad.sizeOf59 rfl (v := .agg (ic .u64 (ofV ((wv W + wv x) % 115792089237316195423570985008687907853269984665640564039457584007913129639936)))) rfl (Hb.h (by repeat (first | assumption | exact Hb.newY _ _ | refine Hb.alloc ?_ | refine Hb.drew ?_ | refine Hb.ext (by assumption) ?_ | exact Hb.setSameL (by first | omega | (simp only [size_alloc, size_setB, size_drew]; omega)) | exact Hb.setSame (by assumption) | refine Hb.set (by first | omega | (simp only [size_alloc, size_setB, size_drew]; omega)) ?_ ))) (by first | omega | assumption | rfl | decide | exact Nat.le_refl _ | (simp only [size_ic, Value.cells]; omega) | simp) (by rw [size_encD hWl]; decide) (by first | exact oneCell_ic | assumption) ?_
    rw [ed_sum hWl hol]
    refine WO_nil ?_
    refine thn_normal ?_
    refine W_seq ?_
    refine W_region rfl ?_
    refine WO_p (PS_move_bool rfl) ?_
    refine WO_nil ?_
    refine thn_normal ?_
    refine W_if rfl (fun hb6 => ?_) (fun hb6 => ?_)
    · have hb6p := hb6.h; try simp only [al_ete, al_dfn, Bool.not_eq_true', Bool.not_eq_false', al_ne, Bool.not_not, al_nn] at hb6p
      refine W_region rfl ?_
      refine WO_p (PS_move_ptr rfl) ?_
      refine WO_p (PS_nilCheck rfl) ?_
      refine WO_p (PS_fieldAddr 7 Hvad.runUnderlying271 rfl Hvad.sizeOf26 rfl rfl) ?_
      refine WO_load (.int _ _) Hvad.isAgg26 rfl (Hb.h (by repeat (first | assumption | exact Hb.newY _ _ | refine Hb.alloc ?_ | refine Hb.drew ?_ | refine Hb.ext (by assumption) ?_ | exact Hb.setSameL (by first | omega | (simp only [size_alloc, size_setB, size_drew]; omega)) | exact Hb.setSame (by assumption) | refine Hb.set (by first | omega | (simp only [size_alloc, size_setB, size_drew]; omega)) ?_ ))) (Ce.h (by first | assumption | exact ed0 | exact ed1 | exact ed2 | exact ed7 (by assumption) | exact ed8 (by assumption) | exact ed9 (by assumption) | exact ⟨rfl⟩)) ?_
      refine WO_p (PS_add_u64n rfl rfl (by omega) (by omega)) ?_
      refine WO_p (PS_nilCheck rfl) ?_
      refine WO_p (PS_fieldAddr 7 Hvad.runUnderlying271 rfl Hvad.sizeOf26 rfl rfl) ?_
      refine WO_store1 Hvad.sizeOf26 rfl (v := .int _ _) rfl (Hb.h (by repeat (first | assumption | exact Hb.newY _ _ | refine Hb.alloc ?_ | refine Hb.drew ?_ | refine Hb.ext (by assumption) ?_ | exact Hb.setSameL (by first | omega | (simp only [size_alloc, size_setB, size_drew]; omega)) | exact Hb.setSame (by assumption) | refine Hb.set (by first | omega | (simp only [size_alloc, size_setB, size_drew]; omega)) ?_ ))) rfl (by rw [size_encD (by assumption)]; decide) rfl ?_
      rw [ed_q (by assumption)]
      refine WO_nil ?_
      first | refine bodyQ_ret0 Hvad.results272 ?_ | refine bodyQ_end0 Hvad.results272 ?_
      exact ⟨⟨(by repeat (first | assumption | exact Ext.refl _ | refine Ext.alloc ?_ _ | refine Ext.drew ?_ | refine Ext.setB ?_ (by first | omega | (simp only [size_alloc, size_setB, size_drew]; omega)) _ | refine Ext.trans ?_ (by assumption))), hDg, hAg, hBg, ⟨hn1, hn2, hn3⟩, ⟨_, q + 1, hoW, by omega, by rw [hov]; omega, Hb.mk (Hb.h (by repeat (first | assumption | exact Hb.newY _ _ | refine Hb.alloc ?_ | refine Hb.drew ?_ | refine Hb.ext (by assumption) ?_ | exact Hb.setSameL (by first | omega | (simp only [size_alloc, size_setB, size_drew]; omega)) | exact Hb.setSame (by assumption) | refine Hb.set (by first | omega | (simp only [size_alloc, size_setB, size_drew]; omega)) ?_ )))⟩, Hb.mk (Hb.h (by repeat (first | assumption | exact Hb.newY _ _ | refine Hb.alloc ?_ | refine Hb.drew ?_ | refine Hb.ext (by assumption) ?_ | exact Hb.setSameL (by first | omega | (simp only [size_alloc, size_setB, size_drew]; omega)) | exact Hb.setSame (by assumption) | refine Hb.set (by first | omega | (simp only [size_alloc, size_setB, size_drew]; omega)) ?_ ))), Hb.mk (Hb.h (by repeat (first | assumption | exact Hb.newY _ _ | refine Hb.alloc ?_ | refine Hb.drew ?_ | refine Hb.ext (by assumption) ?_ | exact Hb.setSameL (by first | omega | (simp only [size_alloc, size_setB, size_drew]; omega)) | exact Hb.setSame (by assumption) | refine Hb.set (by first | omega | (simp only [size_alloc, size_setB, size_drew]; omega)) ?_ ))), hbw, hvw, hla, hlv⟩, by (repeat (first | assumption | exact KeepO.refl _ _ | refine KeepO.alloc ?_ _ | refine KeepO.dr ?_ | refine KeepO.setB ?_ (by intro hlt; first | exact Or.inl rfl | exact Or.inr (Or.inl rfl) | exact Or.inr (Or.inr rfl) | (exfalso; omega) | (exfalso; simp only [size_alloc, size_setB, size_drew] at hlt; omega)) _ | refine KeepO.tr ?_ (by assumption) | refine KeepO.extR ?_ (by assumption)))⟩
    · have hb6p := hb6.h; try simp only [al_ete, al_dfn, Bool.not_eq_true', Bool.not_eq_false', al_ne, Bool.not_not, al_nn] at hb6p
      refine W_skip ?_
      first | refine bodyQ_ret0 Hvad.results272 ?_ | refine bodyQ_end0 Hvad.results272 ?_
      exact ⟨⟨(by repeat (first | assumption | exact Ext.refl _ | refine Ext.alloc ?_ _ | refine Ext.drew ?_ | refine Ext.setB ?_ (by first | omega | (simp only [size_alloc, size_setB, size_drew]; omega)) _ | refine Ext.trans ?_ (by assumption))), hDg, hAg, hBg, ⟨hn1, hn2, hn3⟩, ⟨_, q, hoW, by omega, by rw [hov]; omega, Hb.mk (Hb.h (by repeat (first | assumption | exact Hb.newY _ _ | refine Hb.alloc ?_ | refine Hb.drew ?_ | refine Hb.ext (by assumption) ?_ | exact Hb.setSameL (by first | omega | (simp only [size_alloc, size_setB, size_drew]; omega)) | exact Hb.setSame (by assumption) | refine Hb.set (by first | omega | (simp only [size_alloc, size_setB, size_drew]; omega)) ?_ )))⟩, Hb.mk (Hb.h (by repeat (first | assumption | exact Hb.newY _ _ | refine Hb.alloc ?_ | refine Hb.drew ?_ | refine Hb.ext (by assumption) ?_ | exact Hb.setSameL (by first | omega | (simp only [size_alloc, size_setB, size_drew]; omega)) | exact Hb.setSame (by assumption) | refine Hb.set (by first | omega | (simp only [size_alloc, size_setB, size_drew]; omega)) ?_ ))), Hb.mk (Hb.h (by repeat (first | assumption | exact Hb.newY _ _ | refine Hb.alloc ?_ | refine Hb.drew ?_ | refine Hb.ext (by assumption) ?_ | exact Hb.setSameL (by first | omega | (simp only [size_alloc, size_setB, size_drew]; omega)) | exact Hb.setSame (by assumption) | refine Hb.set (by first | omega | (simp only [size_alloc, size_setB, size_drew]; omega)) ?_ ))), hbw, hvw, hla, hlv⟩, by (repeat (first | assumption | exact KeepO.refl _ _ | refine KeepO.alloc ?_ _ | refine KeepO.dr ?_ | refine KeepO.setB ?_ (by intro hlt; first | exact Or.inl rfl | exact Or.inr (Or.inl rfl) | exact Or.inr (Or.inr rfl) | (exfalso; omega) | (exfalso; simp only [size_alloc, size_setB, size_drew] at hlt; omega)) _ | refine KeepO.tr ?_ (by assumption) | refine KeepO.extR ?_ (by assumption)))⟩

end Go.Proofs.YgvadwGreat
