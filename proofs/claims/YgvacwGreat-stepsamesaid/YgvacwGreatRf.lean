import Derived.Test.YgvacwGreatRe
namespace Go.Proofs.YgvacwGreat
set_option linter.unusedSimpArgs false
set_option linter.unusedVariables false
theorem setIf_self {c : Array Value} {i : Nat} {v : Value} (h : Ce c i v) : c.setIfInBounds i v = c := by
  refine Array.ext_getElem? fun j => ?_
  rw [Array.getElem?_setIfInBounds]
  split
  · rename_i e; subst e; split
    · exact h.h.symm
    · rename_i h2; rw [Array.getElem?_eq_none (by omega)]
  · rfl

set_option maxRecDepth 10000 in
set_option maxHeartbeats 4000000 in
theorem yMove_spec [Om] (w : World) (hO : OmB w) (S : Nat) (c : Array Value) (T : TypeId)  (s : SV) (l : List PA) (hS : Hb w S (.cells c T (0, 0))) (hc : Ce c (0 + 0) (.slice s.1 s.2.1 s.2.2)) (hl : AcsR w s l) (hln : l.length ≤ 100000000) (hSo : Om.p S) (hc0 : 0 < c.size) (hcd : CdOK l) (hlen : l.length ≤ 99999990) (A B : List Int) (hA : By A 20) (hB : By B 20) (vp : Option Addr) (vn vc v : Nat) (hv : NN w (vp, vn, vc) v) (zv : sz v ≤ 32) (hsum : v ≤ (yacct l A).bal → sz ((yacct (ysetBal l A ((yacct l A).bal - v)) B).bal + v) ≤ 40) : Ret Hvac.prog 94 #[.pointer (some ⟨S, 0, none⟩), .agg (ic .u8 A), .agg (ic .u8 B), .slice vp vn vc] w fun u w' => u = .tuple #[] ∧ KeepO (fun b => b = S) w w' ∧ ∃ s' : SV, Hb w' S (.cells (c.setIfInBounds (0 + 0) (.slice s'.1 s'.2.1 s'.2.2)) T (0, 0)) ∧ AcsR w' s' (ymove l A B v) := by
  have hAl := hA.1
  have hBl := hB.1
  have hSl := hS.lt
  have hsz0 : 0 < (c.setIfInBounds (0 + 0) (.slice none 0 0)).size := by simpa using hc0
  refine Ret_of_W Hvac.func94 rfl rfl ?_
  refine W_seq ?_
  refine W_region rfl ?_
  refine WO_boxG (.agg _) rfl ?_
  intro b5 v5 hg5 hE5 hH5 hl5
  try simp only [size_alloc, size_setB, size_drew] at hg5
  have hzz5 := hE5.1
  try simp only [size_alloc, size_setB, size_drew] at hzz5
  refine WO_boxG (.agg _) rfl ?_
  intro b6 v6 hg6 hE6 hH6 hl6
  try simp only [size_alloc, size_setB, size_drew] at hg6
  have hzz6 := hE6.1
  try simp only [size_alloc, size_setB, size_drew] at hzz6
  refine WO_nil ?_
  refine thn_normal ?_
  refine W_seq ?_
  refine W_region rfl ?_
  refine WO_p (PS_move_ptr rfl) ?_
  refine WO_loadA _ Hvac.isAgg25 Hvac.sizeOf25 rfl (Hb.h (by repeat (first | assumption | exact Hb.newY _ _ | refine Hb.alloc ?_ | refine Hb.drew ?_ | refine Hb.ext (by assumption) ?_ | exact Hb.setSameL (by first | omega | (simp only [size_alloc, size_setB, size_drew]; omega)) | exact Hb.setSame (by assumption) | refine Hb.set (by first | omega | (simp only [size_alloc, size_setB, size_drew]; omega)) ?_ ))) (by first | omega | assumption | rfl | decide | exact Nat.le_refl _ | (simp only [size_ic, Value.cells]; omega) | (simp; omega) | simp) (Xt.h (by first | assumption | exact Xt.whole rfl rfl | exact Xt.whole rfl (by assumption) | exact Xt.whole rfl (by simp only [size_ic, Value.cells]; omega) | exact ⟨rfl⟩)) ?_
  refine WO_call Hvac.call17 (by rfl) (Ret.mono (account_spec _ (OmB.ext hO (by repeat (first | assumption | exact Ext.refl _ | refine Ext.alloc ?_ _ | refine Ext.drew ?_ | refine Ext.setB ?_ (by first | omega | (simp only [size_alloc, size_setB, size_drew]; omega)) _ | exact Ext.trans (by assumption) (by assumption) | refine Ext.trans ?_ (by assumption)))) S c T (0, 0) s l (Hb.mk (Hb.h (by repeat (first | assumption | exact Hb.newY _ _ | refine Hb.alloc ?_ | refine Hb.drew ?_ | refine Hb.ext (by assumption) ?_ | exact Hb.setSameL (by first | omega | (simp only [size_alloc, size_setB, size_drew]; omega)) | exact Hb.setSame (by assumption) | refine Hb.set (by first | omega | (simp only [size_alloc, size_setB, size_drew]; omega)) ?_ )))) hc (AcsR.ext hl (by repeat (first | assumption | exact Ext.refl _ | refine Ext.alloc ?_ _ | refine Ext.drew ?_ | refine Ext.setB ?_ (by first | omega | (simp only [size_alloc, size_setB, size_drew]; omega)) _ | exact Ext.trans (by assumption) (by assumption) | refine Ext.trans ?_ (by assumption)))) hln _ (by assumption)) ?_)
  rintro _ w3 ⟨hE3, x3, rfl, hxa3, hxr3⟩
  have hz3 := hE3.1
  try simp only [size_alloc, size_setB, size_drew] at hz3
  have hxl3 : x3.addr.length = 20 := by rw [hxa3]; first | exact hA.1 | exact hB.1
  have hsz3 : (encYA x3).toArray.size = 24 := by simpa using encYA_len hxl3
  have hone3 := one_YA2 x3
  have hc13 := encYA_1 hxl3
  have hc23 := encYA_2 hxl3
  have hc33 := encYA_3 hxl3
  have hnb3 := hxr3.bal
  have hnn3 := hxr3.nonce
  have hzb3 := hxr3.bz
  have hzn3 := hxr3.nz
  have hcl3 := hxr3.code.len
  refine WO_p (PS_field (.slice _ _ _) 21 Hvac.runUnderlying104 rfl Hvac.isAgg92 rfl rfl (Ce.h (by first | assumption | exact ⟨rfl⟩))) ?_
  refine WO_p (PS_move_slice rfl) ?_
  refine WO_call Hvac.call82 (by rfl) (Ret.mono (nSub_spec (OmB.ext hO (by repeat (first | assumption | exact Ext.refl _ | refine Ext.alloc ?_ _ | refine Ext.drew ?_ | refine Ext.setB ?_ (by first | omega | (simp only [size_alloc, size_setB, size_drew]; omega)) _ | exact Ext.trans (by assumption) (by assumption) | refine Ext.trans ?_ (by assumption)))) (by first | exact NN.nil _ | assumption | exact NN.ext (by assumption) (by repeat (first | assumption | exact Ext.refl _ | refine Ext.alloc ?_ _ | refine Ext.drew ?_ | refine Ext.setB ?_ (by first | omega | (simp only [size_alloc, size_setB, size_drew]; omega)) _ | exact Ext.trans (by assumption) (by assumption) | refine Ext.trans ?_ (by assumption)))) (by first | exact NN.nil _ | assumption | exact NN.ext (by assumption) (by repeat (first | assumption | exact Ext.refl _ | refine Ext.alloc ?_ _ | refine Ext.drew ?_ | refine Ext.setB ?_ (by first | omega | (simp only [size_alloc, size_setB, size_drew]; omega)) _ | exact Ext.trans (by assumption) (by assumption) | refine Ext.trans ?_ (by assumption)))) (by first | assumption | omega | (rw [sz_zero]; omega)) (by first | assumption | omega | (rw [sz_zero]; omega))) ?_)
  rintro _ w82_1 ⟨hE82_1, s82_1, rfl, hN82_1⟩
  have hz82_1 := hE82_1.1
  try simp only [size_alloc, size_setB, size_drew] at hz82_1
  have hs82_1 := hN82_1.z_sub
  refine WO_p (PS_move_tuple rfl) ?_
  refine WO_p (PS_extract_slice rfl rfl) ?_
  refine WO_p (PS_extract_bool rfl rfl) ?_
  refine WO_p (PS_assign_slice rfl) ?_
  refine WO_p (PS_assign_bool rfl) ?_
  refine WO_nil ?_
  refine thn_normal ?_
  refine W_seq ?_
  refine W_seq ?_
  refine W_region rfl ?_
  refine WO_p (PS_move_bool rfl) ?_
  refine WO_p (PS_not rfl) ?_
  refine WO_p (PS_move_bool rfl) ?_
  refine WO_if (t := 21) rfl (fun hb5 => ?_) (fun hb5 => ?_)
  · have hb5p := hb5.h; try simp only [al_ete, al_dfn, Bool.not_eq_true', Bool.not_eq_false', al_ne, Bool.not_not, al_nn] at hb5p
    have hno : ¬ (v ≤ (yacct l A).bal ∧ v ≠ 0) := fun h9 => hb5p h9.1
    refine WO_guardF rfl rfl hb5.h ?_
    refine WO_guardF rfl rfl hb5.h ?_
    refine WO_p (PS_pickT rfl hb5.h rfl) ?_
    refine WO_nil ?_
    refine thn_normal ?_
    refine W_condT rfl rfl ?_
    refine W_ret ?_
    refine thn_ret ?_
    first | refine bodyQ_ret0 Hvac.results94 ?_ | refine bodyQ_end0 Hvac.results94 ?_
    first
    | (refine ⟨rfl, Ext.keepO (by repeat (first | assumption | exact Ext.refl _ | refine Ext.alloc ?_ _ | refine Ext.drew ?_ | refine Ext.setB ?_ (by first | omega | (simp only [size_alloc, size_setB, size_drew]; omega)) _ | refine Ext.trans ?_ (by assumption))) _, s, ?_, ?_⟩
       · rw [setIf_self hc]; exact Hb.mk (Hb.h (by repeat (first | assumption | exact Hb.newY _ _ | refine Hb.alloc ?_ | refine Hb.drew ?_ | refine Hb.ext (by assumption) ?_ | exact Hb.setSameL (by first | omega | (simp only [size_alloc, size_setB, size_drew]; omega)) | exact Hb.setSame (by assumption) | refine Hb.set (by first | omega | (simp only [size_alloc, size_setB, size_drew]; omega)) ?_ )))
       · unfold ymove; rw [if_neg hno]; exact AcsR.ext hl (by repeat (first | assumption | exact Ext.refl _ | refine Ext.alloc ?_ _ | refine Ext.drew ?_ | refine Ext.setB ?_ (by first | omega | (simp only [size_alloc, size_setB, size_drew]; omega)) _ | refine Ext.trans ?_ (by assumption))))
    | (refine ⟨rfl, KeepO.trans (O := fun b => b = S) (O' := fun b => b = S) (KeepO.trans (O := fun b => b = S) (O' := fun b => b = S) (Ext.keepO (by repeat (first | assumption | exact Ext.refl _ | refine Ext.alloc ?_ _ | refine Ext.drew ?_ | refine Ext.setB ?_ (by first | omega | (simp only [size_alloc, size_setB, size_drew]; omega)) _ | refine Ext.trans ?_ (by assumption))) _) hk5 (fun _ _ h => h)) (KeepO.trans (O := fun b => b = S) (O' := fun b => b = S) (Ext.keepO (by repeat (first | assumption | exact Ext.refl _ | refine Ext.alloc ?_ _ | refine Ext.drew ?_ | refine Ext.setB ?_ (by first | omega | (simp only [size_alloc, size_setB, size_drew]; omega)) _ | refine Ext.trans ?_ (by assumption))) _) hk9 (fun _ _ h => h)) (fun _ _ h => h), s9, ?_, ?_⟩
       · rw [setIf_set] at hS9; exact hS9
       · unfold ymove; rw [if_pos hyes]; exact hl9)
  · have hb5p := hb5.h; try simp only [al_ete, al_dfn, Bool.not_eq_true', Bool.not_eq_false', al_ne, Bool.not_not, al_nn] at hb5p
    have hge : v ≤ (yacct l A).bal := by simpa using hb5p
    refine WO_guardT rfl rfl hb5.h ?_
    refine WO_p (PS_move_slice rfl) ?_
    refine WO_guardT rfl rfl hb5.h ?_
    refine WO_call Hvac.call91 (by rfl) (Ret.mono (yIsZero_spec _ (OmB.ext hO (by repeat (first | assumption | exact Ext.refl _ | refine Ext.alloc ?_ _ | refine Ext.drew ?_ | refine Ext.setB ?_ (by first | omega | (simp only [size_alloc, size_setB, size_drew]; omega)) _ | exact Ext.trans (by assumption) (by assumption) | refine Ext.trans ?_ (by assumption)))) _ _ _ _ (by first | exact NN.nil _ | assumption | exact NN.ext (by assumption) (by repeat (first | assumption | exact Ext.refl _ | refine Ext.alloc ?_ _ | refine Ext.drew ?_ | refine Ext.setB ?_ (by first | omega | (simp only [size_alloc, size_setB, size_drew]; omega)) _ | exact Ext.trans (by assumption) (by assumption) | refine Ext.trans ?_ (by assumption)))) (by first | assumption | omega | (rw [sz_zero]; omega))) ?_)
    rintro _ w91_5 ⟨hE91_5, rfl⟩
    have hz91_5 := hE91_5.1
    try simp only [size_alloc, size_setB, size_drew] at hz91_5
    refine WO_p (PS_pickF rfl hb5.h rfl) ?_
    refine WO_nil ?_
    refine thn_normal ?_
    refine W_if rfl (fun hb7 => ?_) (fun hb7 => ?_)
    · have hb7p := hb7.h; try simp only [al_ete, al_dfn, Bool.not_eq_true', Bool.not_eq_false', al_ne, Bool.not_not, al_nn] at hb7p
      have hno : ¬ (v ≤ (yacct l A).bal ∧ v ≠ 0) := fun h9 => h9.2 hb7p
      refine W_ret ?_
      refine thn_ret ?_
      first | refine bodyQ_ret0 Hvac.results94 ?_ | refine bodyQ_end0 Hvac.results94 ?_
      first
      | (refine ⟨rfl, Ext.keepO (by repeat (first | assumption | exact Ext.refl _ | refine Ext.alloc ?_ _ | refine Ext.drew ?_ | refine Ext.setB ?_ (by first | omega | (simp only [size_alloc, size_setB, size_drew]; omega)) _ | refine Ext.trans ?_ (by assumption))) _, s, ?_, ?_⟩
         · rw [setIf_self hc]; exact Hb.mk (Hb.h (by repeat (first | assumption | exact Hb.newY _ _ | refine Hb.alloc ?_ | refine Hb.drew ?_ | refine Hb.ext (by assumption) ?_ | exact Hb.setSameL (by first | omega | (simp only [size_alloc, size_setB, size_drew]; omega)) | exact Hb.setSame (by assumption) | refine Hb.set (by first | omega | (simp only [size_alloc, size_setB, size_drew]; omega)) ?_ )))
         · unfold ymove; rw [if_neg hno]; exact AcsR.ext hl (by repeat (first | assumption | exact Ext.refl _ | refine Ext.alloc ?_ _ | refine Ext.drew ?_ | refine Ext.setB ?_ (by first | omega | (simp only [size_alloc, size_setB, size_drew]; omega)) _ | refine Ext.trans ?_ (by assumption))))
      | (refine ⟨rfl, KeepO.trans (O := fun b => b = S) (O' := fun b => b = S) (KeepO.trans (O := fun b => b = S) (O' := fun b => b = S) (Ext.keepO (by repeat (first | assumption | exact Ext.refl _ | refine Ext.alloc ?_ _ | refine Ext.drew ?_ | refine Ext.setB ?_ (by first | omega | (simp only [size_alloc, size_setB, size_drew]; omega)) _ | refine Ext.trans ?_ (by assumption))) _) hk5 (fun _ _ h => h)) (KeepO.trans (O := fun b => b = S) (O' := fun b => b = S) (Ext.keepO (by repeat (first | assumption | exact Ext.refl _ | refine Ext.alloc ?_ _ | refine Ext.drew ?_ | refine Ext.setB ?_ (by first | omega | (simp only [size_alloc, size_setB, size_drew]; omega)) _ | refine Ext.trans ?_ (by assumption))) _) hk9 (fun _ _ h => h)) (fun _ _ h => h), s9, ?_, ?_⟩
         · rw [setIf_set] at hS9; exact hS9
         · unfold ymove; rw [if_pos hyes]; exact hl9)
    · have hb7p := hb7.h; try simp only [al_ete, al_dfn, Bool.not_eq_true', Bool.not_eq_false', al_ne, Bool.not_not, al_nn] at hb7p
      have hyes : v ≤ (yacct l A).bal ∧ v ≠ 0 := ⟨hge, hb7p⟩
      refine W_skip ?_
      refine thn_normal ?_
      refine W_seq ?_
      refine W_region rfl ?_
      refine WO_p (PS_move_ptr rfl) ?_
      refine WO_loadA _ Hvac.isAgg25 Hvac.sizeOf25 rfl (Hb.h (by repeat (first | assumption | exact Hb.newY _ _ | refine Hb.alloc ?_ | refine Hb.drew ?_ | refine Hb.ext (by assumption) ?_ | exact Hb.setSameL (by first | omega | (simp only [size_alloc, size_setB, size_drew]; omega)) | exact Hb.setSame (by assumption) | refine Hb.set (by first | omega | (simp only [size_alloc, size_setB, size_drew]; omega)) ?_ ))) (by first | omega | assumption | rfl | decide | exact Nat.le_refl _ | (simp only [size_ic, Value.cells]; omega) | (simp; omega) | simp) (Xt.h (by first | assumption | exact Xt.whole rfl rfl | exact Xt.whole rfl (by assumption) | exact Xt.whole rfl (by simp only [size_ic, Value.cells]; omega) | exact ⟨rfl⟩)) ?_
      refine WO_p (PS_move_slice rfl) ?_
      refine WO_call Hvac.call25 (by rfl) (Ret.mono (ySetBal_spec _ (OmB.ext hO (by repeat (first | assumption | exact Ext.refl _ | refine Ext.alloc ?_ _ | refine Ext.drew ?_ | refine Ext.setB ?_ (by first | omega | (simp only [size_alloc, size_setB, size_drew]; omega)) _ | exact Ext.trans (by assumption) (by assumption) | refine Ext.trans ?_ (by assumption)))) S c T s l (Hb.mk (Hb.h (by repeat (first | assumption | exact Hb.newY _ _ | refine Hb.alloc ?_ | refine Hb.drew ?_ | refine Hb.ext (by assumption) ?_ | exact Hb.setSameL (by first | omega | (simp only [size_alloc, size_setB, size_drew]; omega)) | exact Hb.setSame (by assumption) | refine Hb.set (by first | omega | (simp only [size_alloc, size_setB, size_drew]; omega)) ?_ )))) hc (AcsR.ext hl (by repeat (first | assumption | exact Ext.refl _ | refine Ext.alloc ?_ _ | refine Ext.drew ?_ | refine Ext.setB ?_ (by first | omega | (simp only [size_alloc, size_setB, size_drew]; omega)) _ | exact Ext.trans (by assumption) (by assumption) | refine Ext.trans ?_ (by assumption)))) hln hSo hc0 hcd _ (by assumption) _ _ _ _ (by first | exact NN.nil _ | assumption | exact NN.ext (by assumption) (by repeat (first | assumption | exact Ext.refl _ | refine Ext.alloc ?_ _ | refine Ext.drew ?_ | refine Ext.setB ?_ (by first | omega | (simp only [size_alloc, size_setB, size_drew]; omega)) _ | exact Ext.trans (by assumption) (by assumption) | refine Ext.trans ?_ (by assumption)))) (by first | assumption | omega | (rw [sz_zero]; omega))) ?_)
      rintro _ w5 ⟨rfl, hk5, s5, hS5, hl5⟩
      have hzk5 := hk5.sz
      try simp only [size_alloc, size_setB, size_drew] at hzk5
      have hO5 : OmB w5 := (OmB.ext hO (by repeat (first | assumption | exact Ext.refl _ | refine Ext.alloc ?_ _ | refine Ext.drew ?_ | refine Ext.setB ?_ (by first | omega | (simp only [size_alloc, size_setB, size_drew]; omega)) _ | exact Ext.trans (by assumption) (by assumption) | refine Ext.trans ?_ (by assumption)))).keep hk5
      have hkO5 := hk5.om (by rintro b _ rfl; exact hSo)
      have hv5 : NN w5 (vp, vn, vc) v := (hv.ext (by repeat (first | assumption | exact Ext.refl _ | refine Ext.alloc ?_ _ | refine Ext.drew ?_ | refine Ext.setB ?_ (by first | omega | (simp only [size_alloc, size_setB, size_drew]; omega)) _ | exact Ext.trans (by assumption) (by assumption) | refine Ext.trans ?_ (by assumption)))).keep hkO5
      have hb6_5 : Hb w5 b6 (.cells (ic .u8 B) 25 (0, 0)) := Hb.keepO hk5 (by omega) (Hb.mk (Hb.h (by repeat (first | assumption | exact Hb.newY _ _ | refine Hb.alloc ?_ | refine Hb.drew ?_ | refine Hb.ext (by assumption) ?_ | exact Hb.setSameL (by first | omega | (simp only [size_alloc, size_setB, size_drew]; omega)) | exact Hb.setSame (by assumption) | refine Hb.set (by first | omega | (simp only [size_alloc, size_setB, size_drew]; omega)) ?_ ))))
      have hb5_5 : Hb w5 b5 (.cells (ic .u8 A) 25 (0, 0)) := Hb.keepO hk5 (by omega) (Hb.mk (Hb.h (by repeat (first | assumption | exact Hb.newY _ _ | refine Hb.alloc ?_ | refine Hb.drew ?_ | refine Hb.ext (by assumption) ?_ | exact Hb.setSameL (by first | omega | (simp only [size_alloc, size_setB, size_drew]; omega)) | exact Hb.setSame (by assumption) | refine Hb.set (by first | omega | (simp only [size_alloc, size_setB, size_drew]; omega)) ?_ ))))
      have hb6l5 := hb6_5.lt
      have hSl5 := hS5.lt
      have hc5 : Ce (c.setIfInBounds (0 + 0) (.slice s5.1 s5.2.1 s5.2.2)) (0 + 0) (.slice s5.1 s5.2.1 s5.2.2) := setIf_same hc0 _
      have hc05 : 0 < (c.setIfInBounds (0 + 0) (.slice s5.1 s5.2.1 s5.2.2)).size := by simpa using hc0
      have hl85 : (ysetBal l A ((yacct l A).bal - v)).length ≤ 100000000 := by have := yput_len l { yacct l A with bal := (yacct l A).bal - v }; unfold ysetBal; omega
      have hcd5 : CdOK (ysetBal l A ((yacct l A).bal - v)) := hcd.put (hcd.acct A)
      refine WO_nil ?_
      refine thn_normal ?_
      refine W_drawE [false, false, false, false, true, false, false, true, false] hmix (by kernel_rfl) rfl ?_
      refine WH_p (PS_move_ptr rfl) rfl ?_
      refine WH_loadA _ Hvac.isAgg25 Hvac.sizeOf25 rfl (Hb.h (by repeat (first | assumption | exact Hb.newY _ _ | refine Hb.alloc ?_ | refine Hb.drew ?_ | refine Hb.ext (by assumption) ?_ | exact Hb.setSameL (by first | omega | (simp only [size_alloc, size_setB, size_drew]; omega)) | exact Hb.setSame (by assumption) | refine Hb.set (by first | omega | (simp only [size_alloc, size_setB, size_drew]; omega)) ?_ ))) (by first | omega | assumption | rfl | decide | exact Nat.le_refl _ | (simp only [size_ic, Value.cells]; omega) | (simp; omega) | simp) (Xt.h (by first | assumption | exact Xt.whole rfl rfl | exact Xt.whole rfl (by assumption) | exact Xt.whole rfl (by simp only [size_ic, Value.cells]; omega) | exact ⟨rfl⟩)) ?_
      refine WH_p (PS_move_ptr rfl) rfl ?_
      refine WH_loadA _ Hvac.isAgg25 Hvac.sizeOf25 rfl (Hb.h (by repeat (first | assumption | exact Hb.newY _ _ | refine Hb.alloc ?_ | refine Hb.drew ?_ | refine Hb.ext (by assumption) ?_ | exact Hb.setSameL (by first | omega | (simp only [size_alloc, size_setB, size_drew]; omega)) | exact Hb.setSame (by assumption) | refine Hb.set (by first | omega | (simp only [size_alloc, size_setB, size_drew]; omega)) ?_ ))) (by first | omega | assumption | rfl | decide | exact Nat.le_refl _ | (simp only [size_ic, Value.cells]; omega) | (simp; omega) | simp) (Xt.h (by first | assumption | exact Xt.whole rfl rfl | exact Xt.whole rfl (by assumption) | exact Xt.whole rfl (by simp only [size_ic, Value.cells]; omega) | exact ⟨rfl⟩)) ?_
      refine WH_call Hvac.call17 (by rfl) (Ret.mono (account_spec _ (OmB.ext hO5 (by repeat (first | assumption | exact Ext.refl _ | refine Ext.alloc ?_ _ | refine Ext.drew ?_ | refine Ext.setB ?_ (by first | omega | (simp only [size_alloc, size_setB, size_drew]; omega)) _ | exact Ext.trans (by assumption) (by assumption) | refine Ext.trans ?_ (by assumption)))) S (c.setIfInBounds (0 + 0) (.slice s5.1 s5.2.1 s5.2.2)) T (0, 0) s5 (ysetBal l A ((yacct l A).bal - v)) (Hb.mk (Hb.h (by repeat (first | assumption | exact Hb.newY _ _ | refine Hb.alloc ?_ | refine Hb.drew ?_ | refine Hb.ext (by assumption) ?_ | exact Hb.setSameL (by first | omega | (simp only [size_alloc, size_setB, size_drew]; omega)) | exact Hb.setSame (by assumption) | refine Hb.set (by first | omega | (simp only [size_alloc, size_setB, size_drew]; omega)) ?_ )))) hc5 (AcsR.ext hl5 (by repeat (first | assumption | exact Ext.refl _ | refine Ext.alloc ?_ _ | refine Ext.drew ?_ | refine Ext.setB ?_ (by first | omega | (simp only [size_alloc, size_setB, size_drew]; omega)) _ | exact Ext.trans (by assumption) (by assumption) | refine Ext.trans ?_ (by assumption)))) hl85 _ (by assumption)) ?_)
      rintro _ w7 ⟨hE7, x7, rfl, hxa7, hxr7⟩
      refine ⟨fun _ => (by repeat (first | assumption | exact Ext.refl _ | refine Ext.alloc ?_ _ | refine Ext.drew ?_ | refine Ext.setB ?_ (by first | omega | (simp only [size_alloc, size_setB, size_drew]; omega)) _ | exact Ext.trans (by assumption) (by assumption) | refine Ext.trans ?_ (by assumption))), ?_⟩
      have hz7 := hE7.1
      try simp only [size_alloc, size_setB, size_drew] at hz7
      have hxl7 : x7.addr.length = 20 := by rw [hxa7]; first | exact hA.1 | exact hB.1
      have hsz7 : (encYA x7).toArray.size = 24 := by simpa using encYA_len hxl7
      have hone7 := one_YA2 x7
      have hc17 := encYA_1 hxl7
      have hc27 := encYA_2 hxl7
      have hc37 := encYA_3 hxl7
      have hnb7 := hxr7.bal
      have hnn7 := hxr7.nonce
      have hzb7 := hxr7.bz
      have hzn7 := hxr7.nz
      have hcl7 := hxr7.code.len
      refine WH_p (PS_field (.slice _ _ _) 21 Hvac.runUnderlying104 rfl Hvac.isAgg92 rfl rfl (Ce.h (by first | assumption | exact ⟨rfl⟩))) rfl ?_
      refine WH_p (PS_move_slice rfl) rfl ?_
      refine WH_call Hvac.call24 (by rfl) (Ret.mono (nAdd_spec (OmB.ext hO5 (by repeat (first | assumption | exact Ext.refl _ | refine Ext.alloc ?_ _ | refine Ext.drew ?_ | refine Ext.setB ?_ (by first | omega | (simp only [size_alloc, size_setB, size_drew]; omega)) _ | exact Ext.trans (by assumption) (by assumption) | refine Ext.trans ?_ (by assumption)))) (by first | exact NN.nil _ | assumption | exact NN.ext (by assumption) (by repeat (first | assumption | exact Ext.refl _ | refine Ext.alloc ?_ _ | refine Ext.drew ?_ | refine Ext.setB ?_ (by first | omega | (simp only [size_alloc, size_setB, size_drew]; omega)) _ | exact Ext.trans (by assumption) (by assumption) | refine Ext.trans ?_ (by assumption)))) (by first | exact NN.nil _ | assumption | exact NN.ext (by assumption) (by repeat (first | assumption | exact Ext.refl _ | refine Ext.alloc ?_ _ | refine Ext.drew ?_ | refine Ext.setB ?_ (by first | omega | (simp only [size_alloc, size_setB, size_drew]; omega)) _ | exact Ext.trans (by assumption) (by assumption) | refine Ext.trans ?_ (by assumption)))) (by first | assumption | omega | (rw [sz_zero]; omega)) (by first | assumption | omega | (rw [sz_zero]; omega))) ?_)
      rintro _ w24_9 ⟨hE24_9, s24_9, rfl, hN24_9⟩
      refine ⟨fun _ => (by repeat (first | assumption | exact Ext.refl _ | refine Ext.alloc ?_ _ | refine Ext.drew ?_ | refine Ext.setB ?_ (by first | omega | (simp only [size_alloc, size_setB, size_drew]; omega)) _ | exact Ext.trans (by assumption) (by assumption) | refine Ext.trans ?_ (by assumption))), ?_⟩
      have hz24_9 := hE24_9.1
      try simp only [size_alloc, size_setB, size_drew] at hz24_9
      have hs24_9 := hN24_9.z_add
      refine WH_call Hvac.call25 (by rfl) (Ret.mono (ySetBal_spec _ (OmB.ext hO5 (by repeat (first | assumption | exact Ext.refl _ | refine Ext.alloc ?_ _ | refine Ext.drew ?_ | refine Ext.setB ?_ (by first | omega | (simp only [size_alloc, size_setB, size_drew]; omega)) _ | exact Ext.trans (by assumption) (by assumption) | refine Ext.trans ?_ (by assumption)))) S (c.setIfInBounds (0 + 0) (.slice s5.1 s5.2.1 s5.2.2)) T s5 (ysetBal l A ((yacct l A).bal - v)) (Hb.mk (Hb.h (by repeat (first | assumption | exact Hb.newY _ _ | refine Hb.alloc ?_ | refine Hb.drew ?_ | refine Hb.ext (by assumption) ?_ | exact Hb.setSameL (by first | omega | (simp only [size_alloc, size_setB, size_drew]; omega)) | exact Hb.setSame (by assumption) | refine Hb.set (by first | omega | (simp only [size_alloc, size_setB, size_drew]; omega)) ?_ )))) hc5 (AcsR.ext hl5 (by repeat (first | assumption | exact Ext.refl _ | refine Ext.alloc ?_ _ | refine Ext.drew ?_ | refine Ext.setB ?_ (by first | omega | (simp only [size_alloc, size_setB, size_drew]; omega)) _ | exact Ext.trans (by assumption) (by assumption) | refine Ext.trans ?_ (by assumption)))) hl85 hSo hc05 hcd5 _ (by assumption) _ _ _ _ (by first | exact NN.nil _ | assumption | exact NN.ext (by assumption) (by repeat (first | assumption | exact Ext.refl _ | refine Ext.alloc ?_ _ | refine Ext.drew ?_ | refine Ext.setB ?_ (by first | omega | (simp only [size_alloc, size_setB, size_drew]; omega)) _ | exact Ext.trans (by assumption) (by assumption) | refine Ext.trans ?_ (by assumption)))) (hsum hge)) ?_)
      rintro _ w9 ⟨rfl, hk9, s9, hS9, hl9⟩
      refine ⟨(fun h => by cases h), ?_⟩
      have hzk9 := hk9.sz
      refine WH_nil ?_
      first | refine bodyQ_ret0 Hvac.results94 ?_ | refine bodyQ_end0 Hvac.results94 ?_
      first
      | (refine ⟨rfl, Ext.keepO (by repeat (first | assumption | exact Ext.refl _ | refine Ext.alloc ?_ _ | refine Ext.drew ?_ | refine Ext.setB ?_ (by first | omega | (simp only [size_alloc, size_setB, size_drew]; omega)) _ | refine Ext.trans ?_ (by assumption))) _, s, ?_, ?_⟩
         · rw [setIf_self hc]; exact Hb.mk (Hb.h (by repeat (first | assumption | exact Hb.newY _ _ | refine Hb.alloc ?_ | refine Hb.drew ?_ | refine Hb.ext (by assumption) ?_ | exact Hb.setSameL (by first | omega | (simp only [size_alloc, size_setB, size_drew]; omega)) | exact Hb.setSame (by assumption) | refine Hb.set (by first | omega | (simp only [size_alloc, size_setB, size_drew]; omega)) ?_ )))
         · unfold ymove; rw [if_neg hno]; exact AcsR.ext hl (by repeat (first | assumption | exact Ext.refl _ | refine Ext.alloc ?_ _ | refine Ext.drew ?_ | refine Ext.setB ?_ (by first | omega | (simp only [size_alloc, size_setB, size_drew]; omega)) _ | refine Ext.trans ?_ (by assumption))))
      | (refine ⟨rfl, KeepO.trans (O := fun b => b = S) (O' := fun b => b = S) (KeepO.trans (O := fun b => b = S) (O' := fun b => b = S) (Ext.keepO (by repeat (first | assumption | exact Ext.refl _ | refine Ext.alloc ?_ _ | refine Ext.drew ?_ | refine Ext.setB ?_ (by first | omega | (simp only [size_alloc, size_setB, size_drew]; omega)) _ | refine Ext.trans ?_ (by assumption))) _) hk5 (fun _ _ h => h)) (KeepO.trans (O := fun b => b = S) (O' := fun b => b = S) (Ext.keepO (by repeat (first | assumption | exact Ext.refl _ | refine Ext.alloc ?_ _ | refine Ext.drew ?_ | refine Ext.setB ?_ (by first | omega | (simp only [size_alloc, size_setB, size_drew]; omega)) _ | refine Ext.trans ?_ (by assumption))) _) hk9 (fun _ _ h => h)) (fun _ _ h => h), s9, ?_, ?_⟩
         · rw [setIf_set] at hS9; exact hS9
         · unfold ymove; rw [if_pos hyes]; exact hl9)

end Go.Proofs.YgvacwGreat
