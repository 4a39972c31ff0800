import Derived.Test.YgvacwGreatRc
namespace Go.Proofs.YgvacwGreat
set_option linter.unusedSimpArgs false
set_option linter.unusedVariables false
def ysetBal (l : List PA) (A : List Int) (n : Nat) : List PA := yput l { yacct l A with bal := n }
def ysetNonce (l : List PA) (A : List Int) (n : Nat) : List PA := yput l { yacct l A with nonce := n }
def ymove (l : List PA) (A B : List Int) (v : Nat) : List PA := if v ≤ (yacct l A).bal ∧ v ≠ 0 then ysetBal (ysetBal l A ((yacct l A).bal - v)) B ((yacct (ysetBal l A ((yacct l A).bal - v)) B).bal + v) else l
theorem encYA_set2 {x : YAc} (h : x.addr.length = 20) (p : Option Addr) (n c : Nat) : (encYA x).toArray.setIfInBounds (0 + 21) (.slice p n c) = (encYA { x with bal := (p, n, c) }).toArray := by
  simp [encYA, List.set_append, h, sv]
theorem encYA_set1 {x : YAc} (h : x.addr.length = 20) (p : Option Addr) (n c : Nat) : (encYA x).toArray.setIfInBounds (0 + 20) (.slice p n c) = (encYA { x with nonce := (p, n, c) }).toArray := by
  simp [encYA, List.set_append, h, sv]
theorem encYA_set3 {x : YAc} (h : x.addr.length = 20) (p : Option Addr) (n c : Nat) : (encYA x).toArray.setIfInBounds (0 + 22) (.slice p n c) = (encYA { x with code := (p, n, c) }).toArray := by
  simp [encYA, List.set_append, h, sv]
theorem encYA_set4 {x : YAc} (h : x.addr.length = 20) (p : Option Addr) (n c : Nat) : (encYA x).toArray.setIfInBounds (0 + 23) (.slice p n c) = (encYA { x with slots := (p, n, c) }).toArray := by
  simp [encYA, List.set_append, h, sv]
theorem setIf_same {c : Array Value} {i : Nat} (h : i < c.size) (v : Value) : Ce (c.setIfInBounds i v) i v := ⟨by simp [h]⟩
theorem setIf_set {c : Array Value} {i : Nat} (u v : Value) : (c.setIfInBounds i u).setIfInBounds i v = c.setIfInBounds i v := by simp
/-- codes are short -/
def CdOK (l : List PA) : Prop := ∀ a ∈ l, a.code.length ≤ 1000000
theorem CdOK.acct {l : List PA} (h : CdOK l) (A : List Int) : (yacct l A).code.length ≤ 1000000 := by
  unfold yacct
  split
  · rename_i x hx; exact h x (List.mem_of_find?_eq_some hx)
  · simp
theorem yputGo_mem {a : PA} {l : List PA} {b : Bool} {x : PA} (h : x ∈ yputGo a b l) : x = a ∨ x ∈ l := by
  induction l generalizing b with
  | nil => unfold yputGo at h; split at h <;> simp at h; exact Or.inl h
  | cons y l ih =>
    unfold yputGo at h
    rcases List.mem_append.1 h with h | h
    · split at h <;> simp at h; exact Or.inl h
    · rcases List.mem_append.1 h with h | h
      · split at h <;> simp at h; exact Or.inr (by simp [h])
      · rcases ih h with h | h
        · exact Or.inl h
        · exact Or.inr (List.mem_cons_of_mem _ h)
theorem CdOK.put {l : List PA} (h : CdOK l) {a : PA} (ha : a.code.length ≤ 1000000) : CdOK (yput l a) := fun x hx => by
  rcases yputGo_mem hx with rfl | hx
  · exact ha
  · exact h x hx
theorem yputGo_len (a : PA) (l : List PA) (b : Bool) : (yputGo a b l).length ≤ l.length + 1 ∧ (b = true → (yputGo a b l).length ≤ l.length) := by
  induction l generalizing b with
  | nil => unfold yputGo; cases b <;> simp
  | cons y l ih =>
    unfold yputGo
    have h1 := ih true
    have h2 := ih false
    have e1 : (if y.addr ≠ a.addr then [y] else []).length ≤ 1 := by split <;> simp
    cases b with
    | true => simp only [al_bnt, al_bfa, al_bto, List.length_append]; have := h1.2 rfl; refine ⟨?_, fun _ => ?_⟩ <;> simp at * <;> omega
    | false =>
      by_cases hy : yless y.addr a.addr = true
      · simp [hy] at *; omega
      · have hy' : yless y.addr a.addr = false := by simpa using hy
        simp [hy'] at *; have := h1.2; omega
theorem yput_len (l : List PA) (a : PA) : (yput l a).length ≤ l.length + 1 := (yputGo_len a l _).1

set_option maxRecDepth 10000 in
set_option maxHeartbeats 4000000 in
theorem ySetBal_spec [Om] (w : World) (hO : OmB w) (S : Nat) (c : Array Value) (T : TypeId)  (s : SV) (l : List PA) (hS : Hb w S (.cells c T (0, 0))) (hc : Ce c (0 + 0) (.slice s.1 s.2.1 s.2.2)) (hl : AcsR w s l) (hln : l.length ≤ 100000000) (hSo : Om.p S) (hc0 : 0 < c.size) (hcd : CdOK l) (A : List Int) (hA : By A 20) (vp : Option Addr) (vn vc v : Nat) (hv : NN w (vp, vn, vc) v) (zv : sz v ≤ 40) : Ret Hvac.prog 25 #[.pointer (some ⟨S, 0, none⟩), .agg (ic .u8 A), .slice vp vn vc] w fun u w' => u = .tuple #[] ∧ KeepO (fun b => b = S) w w' ∧ ∃ s' : SV, Hb w' S (.cells (c.setIfInBounds (0 + 0) (.slice s'.1 s'.2.1 s'.2.2)) T (0, 0)) ∧ AcsR w' s' (ysetBal l A v) := by
  have hAl := hA.1
  have hSl := hS.lt
  refine Ret_of_W Hvac.func25 rfl rfl ?_
  refine W_seq ?_
  refine W_region rfl ?_
  refine WO_boxG (.agg _) rfl ?_
  intro b4 v4 hg4 hE4 hH4 hl4
  try simp only [size_alloc, size_setB, size_drew] at hg4
  have hzz4 := hE4.1
  try simp only [size_alloc, size_setB, size_drew] at hzz4
  refine WO_nil ?_
  refine thn_normal ?_
  refine W_seq ?_
  refine W_region rfl ?_
  refine WO_p (PS_move_ptr rfl) ?_
  refine WO_loadA _ Hvac.isAgg25 Hvac.sizeOf25 rfl (Hb.h (by repeat (first | assumption | exact Hb.newY _ _ | refine Hb.alloc ?_ | refine Hb.drew ?_ | refine Hb.ext (by assumption) ?_ | exact Hb.setSameL (by first | omega | (simp only [size_alloc, size_setB, size_drew]; omega)) | exact Hb.setSame (by assumption) | refine Hb.set (by first | omega | (simp only [size_alloc, size_setB, size_drew]; omega)) ?_ ))) (by first | omega | assumption | rfl | decide | exact Nat.le_refl _ | (simp only [size_ic, Value.cells]; omega) | (simp; omega) | simp) (Xt.h (by first | assumption | exact Xt.whole rfl rfl | exact Xt.whole rfl (by assumption) | exact Xt.whole rfl (by simp only [size_ic, Value.cells]; omega) | exact ⟨rfl⟩)) ?_
  refine WO_call Hvac.call17 (by rfl) (Ret.mono (account_spec _ (OmB.ext hO (by repeat (first | assumption | exact Ext.refl _ | refine Ext.alloc ?_ _ | refine Ext.drew ?_ | refine Ext.setB ?_ (by first | omega | (simp only [size_alloc, size_setB, size_drew]; omega)) _ | exact Ext.trans (by assumption) (by assumption) | refine Ext.trans ?_ (by assumption)))) S c T (0, 0) s l (Hb.mk (Hb.h (by repeat (first | assumption | exact Hb.newY _ _ | refine Hb.alloc ?_ | refine Hb.drew ?_ | refine Hb.ext (by assumption) ?_ | exact Hb.setSameL (by first | omega | (simp only [size_alloc, size_setB, size_drew]; omega)) | exact Hb.setSame (by assumption) | refine Hb.set (by first | omega | (simp only [size_alloc, size_setB, size_drew]; omega)) ?_ )))) hc (by first | assumption | exact AcsR.ext (by assumption) (by repeat (first | assumption | exact Ext.refl _ | refine Ext.alloc ?_ _ | refine Ext.drew ?_ | refine Ext.setB ?_ (by first | omega | (simp only [size_alloc, size_setB, size_drew]; omega)) _ | exact Ext.trans (by assumption) (by assumption) | refine Ext.trans ?_ (by assumption)))) hln _ (by assumption)) ?_)
  rintro _ w3 ⟨hE3, x3, rfl, hxa3, hxr3⟩
  have hz3 := hE3.1
  try simp only [size_alloc, size_setB, size_drew] at hz3
  have hxl3 : x3.addr.length = 20 := by rw [hxa3]; first | exact hA.1 | exact hB.1
  have hsz3 : (encYA x3).toArray.size = 24 := by simpa using encYA_len hxl3
  have hone3 := one_YA2 x3
  have hc13 := encYA_1 hxl3
  have hc23 := encYA_2 hxl3
  have hc33 := encYA_3 hxl3
  have hnb3 := hxr3.bal
  have hnn3 := hxr3.nonce
  have hzb3 := hxr3.bz
  have hzn3 := hxr3.nz
  have hcl3 := hxr3.code.len
  refine WO_allocG Hvac.zeroValue104 ?_
  intro b6 v6 hg6 hE6 hH6 hl6
  try simp only [size_alloc, size_setB, size_drew] at hg6
  have hzz6 := hE6.1
  try simp only [size_alloc, size_setB, size_drew] at hzz6
  replace hH6 : Hb v6 b6 (.cells ((encYA (ac0 (List.replicate 20 0))).toArray) 104 (0, 0)) := hH6
  first | refine WO_storeW Hvac.sizeOf104 rfl (v := .agg _) rfl (Hb.h (by repeat (first | assumption | exact Hb.newY _ _ | refine Hb.alloc ?_ | refine Hb.drew ?_ | refine Hb.ext (by assumption) ?_ | exact Hb.setSameL (by first | omega | (simp only [size_alloc, size_setB, size_drew]; omega)) | exact Hb.setSame (by assumption) | refine Hb.set (by first | omega | (simp only [size_alloc, size_setB, size_drew]; omega)) ?_ ))) rfl (by first | omega | assumption | rfl | decide | exact Nat.le_refl _ | (simp only [size_ic, Value.cells]; omega) | (simp; omega) | simp) (by first | omega | assumption | rfl | decide | exact Nat.le_refl _ | (simp only [size_ic, Value.cells]; omega) | (simp; omega) | simp) (by first | exact oneCell_ic | assumption) ?_ | refine WO_store Hvac.sizeOf104 rfl (v := .agg _) rfl (Hb.h (by repeat (first | assumption | exact Hb.newY _ _ | refine Hb.alloc ?_ | refine Hb.drew ?_ | refine Hb.ext (by assumption) ?_ | exact Hb.setSameL (by first | omega | (simp only [size_alloc, size_setB, size_drew]; omega)) | exact Hb.setSame (by assumption) | refine Hb.set (by first | omega | (simp only [size_alloc, size_setB, size_drew]; omega)) ?_ ))) (by first | omega | assumption | rfl | decide | exact Nat.le_refl _ | (simp only [size_ic, Value.cells]; omega) | (simp; omega) | simp) (by first | omega | assumption | rfl | decide | exact Nat.le_refl _ | (simp only [size_ic, Value.cells]; omega) | (simp; omega) | simp) (by first | exact oneCell_ic | assumption) ?_
  refine WO_nil ?_
  refine thn_normal ?_
  refine W_seq ?_
  refine W_region rfl ?_
  refine WO_p (PS_move_slice rfl) ?_
  refine WO_p (PS_fieldAddr 21 Hvac.runUnderlying104 rfl Hvac.sizeOf92 rfl rfl) ?_
  refine WO_store1 Hvac.sizeOf92 rfl (v := .slice _ _ _) rfl (Hb.h (by repeat (first | assumption | exact Hb.newY _ _ | refine Hb.alloc ?_ | refine Hb.drew ?_ | refine Hb.ext (by assumption) ?_ | exact Hb.setSameL (by first | omega | (simp only [size_alloc, size_setB, size_drew]; omega)) | exact Hb.setSame (by assumption) | refine Hb.set (by first | omega | (simp only [size_alloc, size_setB, size_drew]; omega)) ?_ ))) rfl (by first | omega | (simp only [Value.cells]; omega)) rfl ?_
  rw [show (Value.agg (encYA x3).toArray).cells = (encYA x3).toArray from rfl, encYA_set2 hxl3]
  have hsz4 : (encYA { x3 with bal := (vp, vn, vc) }).toArray.size = 24 := by simpa using encYA_len (x := { x3 with bal := (vp, vn, vc) }) hxl3
  refine WO_nil ?_
  refine thn_normal ?_
  refine W_region rfl ?_
  refine WO_p (PS_move_ptr rfl) ?_
  refine WO_loadA _ Hvac.isAgg104 Hvac.sizeOf104 rfl (Hb.h (by repeat (first | assumption | exact Hb.newY _ _ | refine Hb.alloc ?_ | refine Hb.drew ?_ | refine Hb.ext (by assumption) ?_ | exact Hb.setSameL (by first | omega | (simp only [size_alloc, size_setB, size_drew]; omega)) | exact Hb.setSame (by assumption) | refine Hb.set (by first | omega | (simp only [size_alloc, size_setB, size_drew]; omega)) ?_ ))) (by first | omega | assumption | rfl | decide | exact Nat.le_refl _ | (simp only [size_ic, Value.cells]; omega) | (simp; omega) | simp) (Xt.h (by first | assumption | exact Xt.whole rfl rfl | exact Xt.whole rfl (by assumption) | exact Xt.whole rfl (by simp only [size_ic, Value.cells]; omega) | exact ⟨rfl⟩)) ?_
  refine WO_call Hvac.call85 (by rfl) (Ret.mono (yPut_spec _ (OmB.ext hO (by repeat (first | assumption | exact Ext.refl _ | refine Ext.alloc ?_ _ | refine Ext.drew ?_ | refine Ext.setB ?_ (by first | omega | (simp only [size_alloc, size_setB, size_drew]; omega)) _ | exact Ext.trans (by assumption) (by assumption) | refine Ext.trans ?_ (by assumption)))) S c T s l (Hb.mk (Hb.h (by repeat (first | assumption | exact Hb.newY _ _ | refine Hb.alloc ?_ | refine Hb.drew ?_ | refine Hb.ext (by assumption) ?_ | exact Hb.setSameL (by first | omega | (simp only [size_alloc, size_setB, size_drew]; omega)) | exact Hb.setSame (by assumption) | refine Hb.set (by first | omega | (simp only [size_alloc, size_setB, size_drew]; omega)) ?_ )))) hc (by first | assumption | exact AcsR.ext (by assumption) (by repeat (first | assumption | exact Ext.refl _ | refine Ext.alloc ?_ _ | refine Ext.drew ?_ | refine Ext.setB ?_ (by first | omega | (simp only [size_alloc, size_setB, size_drew]; omega)) _ | exact Ext.trans (by assumption) (by assumption) | refine Ext.trans ?_ (by assumption)))) hln hSo hc0 { x3 with bal := (vp, vn, vc) } { yacct l A with bal := v } { hxr3.ext (by repeat (first | assumption | exact Ext.refl _ | refine Ext.alloc ?_ _ | refine Ext.drew ?_ | refine Ext.setB ?_ (by first | omega | (simp only [size_alloc, size_setB, size_drew]; omega)) _ | exact Ext.trans (by assumption) (by assumption) | refine Ext.trans ?_ (by assumption))) with bal := NN.ext hv (by repeat (first | assumption | exact Ext.refl _ | refine Ext.alloc ?_ _ | refine Ext.drew ?_ | refine Ext.setB ?_ (by first | omega | (simp only [size_alloc, size_setB, size_drew]; omega)) _ | exact Ext.trans (by assumption) (by assumption) | refine Ext.trans ?_ (by assumption))), bz := zv } (hcd.acct A)) ?_)
  rintro _ w9 ⟨rfl, hk9, s9, hS9, hl9⟩
  refine WO_nil ?_
  first | refine bodyQ_ret0 Hvac.results25 ?_ | refine bodyQ_end0 Hvac.results25 ?_
  exact ⟨rfl, KeepO.trans (O := fun b => b = S) (Ext.keepO (by repeat (first | assumption | exact Ext.refl _ | refine Ext.alloc ?_ _ | refine Ext.drew ?_ | refine Ext.setB ?_ (by first | omega | (simp only [size_alloc, size_setB, size_drew]; omega)) _ | refine Ext.trans ?_ (by assumption))) _) hk9 (fun _ _ h => h), s9, hS9, hl9⟩

set_option maxRecDepth 10000 in
set_option maxHeartbeats 4000000 in
theorem ySetNonce_spec [Om] (w : World) (hO : OmB w) (S : Nat) (c : Array Value) (T : TypeId)  (s : SV) (l : List PA) (hS : Hb w S (.cells c T (0, 0))) (hc : Ce c (0 + 0) (.slice s.1 s.2.1 s.2.2)) (hl : AcsR w s l) (hln : l.length ≤ 100000000) (hSo : Om.p S) (hc0 : 0 < c.size) (hcd : CdOK l) (A : List Int) (hA : By A 20) (vp : Option Addr) (vn vc v : Nat) (hv : NN w (vp, vn, vc) v) (zv : sz v ≤ 40) : Ret Hvac.prog 23 #[.pointer (some ⟨S, 0, none⟩), .agg (ic .u8 A), .slice vp vn vc] w fun u w' => u = .tuple #[] ∧ KeepO (fun b => b = S) w w' ∧ ∃ s' : SV, Hb w' S (.cells (c.setIfInBounds (0 + 0) (.slice s'.1 s'.2.1 s'.2.2)) T (0, 0)) ∧ AcsR w' s' (ysetNonce l A v) := by
  have hAl := hA.1
  have hSl := hS.lt
  refine Ret_of_W Hvac.func23 rfl rfl ?_
  refine W_seq ?_
  refine W_region rfl ?_
  refine WO_boxG (.agg _) rfl ?_
  intro b4 v4 hg4 hE4 hH4 hl4
  try simp only [size_alloc, size_setB, size_drew] at hg4
  have hzz4 := hE4.1
  try simp only [size_alloc, size_setB, size_drew] at hzz4
  refine WO_nil ?_
  refine thn_normal ?_
  refine W_seq ?_
  refine W_region rfl ?_
  refine WO_p (PS_move_ptr rfl) ?_
  refine WO_loadA _ Hvac.isAgg25 Hvac.sizeOf25 rfl (Hb.h (by repeat (first | assumption | exact Hb.newY _ _ | refine Hb.alloc ?_ | refine Hb.drew ?_ | refine Hb.ext (by assumption) ?_ | exact Hb.setSameL (by first | omega | (simp only [size_alloc, size_setB, size_drew]; omega)) | exact Hb.setSame (by assumption) | refine Hb.set (by first | omega | (simp only [size_alloc, size_setB, size_drew]; omega)) ?_ ))) (by first | omega | assumption | rfl | decide | exact Nat.le_refl _ | (simp only [size_ic, Value.cells]; omega) | (simp; omega) | simp) (Xt.h (by first | assumption | exact Xt.whole rfl rfl | exact Xt.whole rfl (by assumption) | exact Xt.whole rfl (by simp only [size_ic, Value.cells]; omega) | exact ⟨rfl⟩)) ?_
  refine WO_call Hvac.call17 (by rfl) (Ret.mono (account_spec _ (OmB.ext hO (by repeat (first | assumption | exact Ext.refl _ | refine Ext.alloc ?_ _ | refine Ext.drew ?_ | refine Ext.setB ?_ (by first | omega | (simp only [size_alloc, size_setB, size_drew]; omega)) _ | exact Ext.trans (by assumption) (by assumption) | refine Ext.trans ?_ (by assumption)))) S c T (0, 0) s l (Hb.mk (Hb.h (by repeat (first | assumption | exact Hb.newY _ _ | refine Hb.alloc ?_ | refine Hb.drew ?_ | refine Hb.ext (by assumption) ?_ | exact Hb.setSameL (by first | omega | (simp only [size_alloc, size_setB, size_drew]; omega)) | exact Hb.setSame (by assumption) | refine Hb.set (by first | omega | (simp only [size_alloc, size_setB, size_drew]; omega)) ?_ )))) hc (by first | assumption | exact AcsR.ext (by assumption) (by repeat (first | assumption | exact Ext.refl _ | refine Ext.alloc ?_ _ | refine Ext.drew ?_ | refine Ext.setB ?_ (by first | omega | (simp only [size_alloc, size_setB, size_drew]; omega)) _ | exact Ext.trans (by assumption) (by assumption) | refine Ext.trans ?_ (by assumption)))) hln _ (by assumption)) ?_)
  rintro _ w3 ⟨hE3, x3, rfl, hxa3, hxr3⟩
  have hz3 := hE3.1
  try simp only [size_alloc, size_setB, size_drew] at hz3
  have hxl3 : x3.addr.length = 20 := by rw [hxa3]; first | exact hA.1 | exact hB.1
  have hsz3 : (encYA x3).toArray.size = 24 := by simpa using encYA_len hxl3
  have hone3 := one_YA2 x3
  have hc13 := encYA_1 hxl3
  have hc23 := encYA_2 hxl3
  have hc33 := encYA_3 hxl3
  have hnb3 := hxr3.bal
  have hnn3 := hxr3.nonce
  have hzb3 := hxr3.bz
  have hzn3 := hxr3.nz
  have hcl3 := hxr3.code.len
  refine WO_allocG Hvac.zeroValue104 ?_
  intro b6 v6 hg6 hE6 hH6 hl6
  try simp only [size_alloc, size_setB, size_drew] at hg6
  have hzz6 := hE6.1
  try simp only [size_alloc, size_setB, size_drew] at hzz6
  replace hH6 : Hb v6 b6 (.cells ((encYA (ac0 (List.replicate 20 0))).toArray) 104 (0, 0)) := hH6
  first | refine WO_storeW Hvac.sizeOf104 rfl (v := .agg _) rfl (Hb.h (by repeat (first | assumption | exact Hb.newY _ _ | refine Hb.alloc ?_ | refine Hb.drew ?_ | refine Hb.ext (by assumption) ?_ | exact Hb.setSameL (by first | omega | (simp only [size_alloc, size_setB, size_drew]; omega)) | exact Hb.setSame (by assumption) | refine Hb.set (by first | omega | (simp only [size_alloc, size_setB, size_drew]; omega)) ?_ ))) rfl (by first | omega | assumption | rfl | decide | exact Nat.le_refl _ | (simp only [size_ic, Value.cells]; omega) | (simp; omega) | simp) (by first | omega | assumption | rfl | decide | exact Nat.le_refl _ | (simp only [size_ic, Value.cells]; omega) | (simp; omega) | simp) (by first | exact oneCell_ic | assumption) ?_ | refine WO_store Hvac.sizeOf104 rfl (v := .agg _) rfl (Hb.h (by repeat (first | assumption | exact Hb.newY _ _ | refine Hb.alloc ?_ | refine Hb.drew ?_ | refine Hb.ext (by assumption) ?_ | exact Hb.setSameL (by first | omega | (simp only [size_alloc, size_setB, size_drew]; omega)) | exact Hb.setSame (by assumption) | refine Hb.set (by first | omega | (simp only [size_alloc, size_setB, size_drew]; omega)) ?_ ))) (by first | omega | assumption | rfl | decide | exact Nat.le_refl _ | (simp only [size_ic, Value.cells]; omega) | (simp; omega) | simp) (by first | omega | assumption | rfl | decide | exact Nat.le_refl _ | (simp only [size_ic, Value.cells]; omega) | (simp; omega) | simp) (by first | exact oneCell_ic | assumption) ?_
  refine WO_nil ?_
  refine thn_normal ?_
  refine W_seq ?_
  refine W_region rfl ?_
  refine WO_p (PS_move_slice rfl) ?_
  refine WO_p (PS_fieldAddr 20 Hvac.runUnderlying104 rfl Hvac.sizeOf92 rfl rfl) ?_
  refine WO_store1 Hvac.sizeOf92 rfl (v := .slice _ _ _) rfl (Hb.h (by repeat (first | assumption | exact Hb.newY _ _ | refine Hb.alloc ?_ | refine Hb.drew ?_ | refine Hb.ext (by assumption) ?_ | exact Hb.setSameL (by first | omega | (simp only [size_alloc, size_setB, size_drew]; omega)) | exact Hb.setSame (by assumption) | refine Hb.set (by first | omega | (simp only [size_alloc, size_setB, size_drew]; omega)) ?_ ))) rfl (by first | omega | (simp only [Value.cells]; omega)) rfl ?_
  rw [show (Value.agg (encYA x3).toArray).cells = (encYA x3).toArray from rfl, encYA_set1 hxl3]
  have hsz4 : (encYA { x3 with nonce := (vp, vn, vc) }).toArray.size = 24 := by simpa using encYA_len (x := { x3 with nonce := (vp, vn, vc) }) hxl3
  refine WO_nil ?_
  refine thn_normal ?_
  refine W_region rfl ?_
  refine WO_p (PS_move_ptr rfl) ?_
  refine WO_loadA _ Hvac.isAgg104 Hvac.sizeOf104 rfl (Hb.h (by repeat (first | assumption | exact Hb.newY _ _ | refine Hb.alloc ?_ | refine Hb.drew ?_ | refine Hb.ext (by assumption) ?_ | exact Hb.setSameL (by first | omega | (simp only [size_alloc, size_setB, size_drew]; omega)) | exact Hb.setSame (by assumption) | refine Hb.set (by first | omega | (simp only [size_alloc, size_setB, size_drew]; omega)) ?_ ))) (by first | omega | assumption | rfl | decide | exact Nat.le_refl _ | (simp only [size_ic, Value.cells]; omega) | (simp; omega) | simp) (Xt.h (by first | assumption | exact Xt.whole rfl rfl | exact Xt.whole rfl (by assumption) | exact Xt.whole rfl (by simp only [size_ic, Value.cells]; omega) | exact ⟨rfl⟩)) ?_
  refine WO_call Hvac.call85 (by rfl) (Ret.mono (yPut_spec _ (OmB.ext hO (by repeat (first | assumption | exact Ext.refl _ | refine Ext.alloc ?_ _ | refine Ext.drew ?_ | refine Ext.setB ?_ (by first | omega | (simp only [size_alloc, size_setB, size_drew]; omega)) _ | exact Ext.trans (by assumption) (by assumption) | refine Ext.trans ?_ (by assumption)))) S c T s l (Hb.mk (Hb.h (by repeat (first | assumption | exact Hb.newY _ _ | refine Hb.alloc ?_ | refine Hb.drew ?_ | refine Hb.ext (by assumption) ?_ | exact Hb.setSameL (by first | omega | (simp only [size_alloc, size_setB, size_drew]; omega)) | exact Hb.setSame (by assumption) | refine Hb.set (by first | omega | (simp only [size_alloc, size_setB, size_drew]; omega)) ?_ )))) hc (by first | assumption | exact AcsR.ext (by assumption) (by repeat (first | assumption | exact Ext.refl _ | refine Ext.alloc ?_ _ | refine Ext.drew ?_ | refine Ext.setB ?_ (by first | omega | (simp only [size_alloc, size_setB, size_drew]; omega)) _ | exact Ext.trans (by assumption) (by assumption) | refine Ext.trans ?_ (by assumption)))) hln hSo hc0 { x3 with nonce := (vp, vn, vc) } { yacct l A with nonce := v } { hxr3.ext (by repeat (first | assumption | exact Ext.refl _ | refine Ext.alloc ?_ _ | refine Ext.drew ?_ | refine Ext.setB ?_ (by first | omega | (simp only [size_alloc, size_setB, size_drew]; omega)) _ | exact Ext.trans (by assumption) (by assumption) | refine Ext.trans ?_ (by assumption))) with nonce := NN.ext hv (by repeat (first | assumption | exact Ext.refl _ | refine Ext.alloc ?_ _ | refine Ext.drew ?_ | refine Ext.setB ?_ (by first | omega | (simp only [size_alloc, size_setB, size_drew]; omega)) _ | exact Ext.trans (by assumption) (by assumption) | refine Ext.trans ?_ (by assumption))), nz := zv } (hcd.acct A)) ?_)
  rintro _ w9 ⟨rfl, hk9, s9, hS9, hl9⟩
  refine WO_nil ?_
  first | refine bodyQ_ret0 Hvac.results23 ?_ | refine bodyQ_end0 Hvac.results23 ?_
  exact ⟨rfl, KeepO.trans (O := fun b => b = S) (Ext.keepO (by repeat (first | assumption | exact Ext.refl _ | refine Ext.alloc ?_ _ | refine Ext.drew ?_ | refine Ext.setB ?_ (by first | omega | (simp only [size_alloc, size_setB, size_drew]; omega)) _ | refine Ext.trans ?_ (by assumption))) _) hk9 (fun _ _ h => h), s9, hS9, hl9⟩

end Go.Proofs.YgvacwGreat
