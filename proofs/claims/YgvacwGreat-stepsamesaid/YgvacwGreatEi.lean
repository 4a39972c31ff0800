import Derived.Test.YgvacwGreatRk
import Derived.Test.YgvacwGreatJn
import Derived.Test.YgvacwGreatMv
import Derived.Test.YgvacwGreatGg
import Derived.Test.YgvacwGreatKb
namespace Go.Proofs.YgvacwGreat
set_option linter.unusedSimpArgs false
set_option linter.unusedVariables false
def emptyA (x : Acct) : Bool := decide (x.nonce = 0) && (decide (x.bal = [0, 0, 0, 0]) && decide (x.code.2.1 = 0))
def writesW (m : Mc) (f : Fm) (o : Int) : Bool := decide (o = 85 ∨ o = 93 ∨ (160 ≤ o ∧ o ≤ 164) ∨ o = 240 ∨ o = 245 ∨ o = 255 ∨ (o = 241 ∧ wv (m.argW f 2) ≠ 0))
def takenW (v : V) (A : List Int) : Bool := decide (0 < v.nonce A ∨ 0 < (v.acY A).code.2.1)
theorem ac_get {v : V} {A : List Int} {x : Acct} (h : v.get A = some x) : v.acY A = x := by unfold V.acY; rw [h]; rfl
theorem ac_non {v : V} {A : List Int} (h : v.get A = none) : v.acY A = newA A := by unfold V.acY; rw [h]; rfl
theorem VRet.kts [Om] {w w' : World} {C : Nat} {c : Array Value} {v v' : V} {B : VB} {β : Option Nat} (hv : VS w C c v B β) (h : VRet w C c B β w' v') : KT 5 w w' ∧ KT 28 w w' := by
  obtain ⟨c', B', _, hS⟩ := h
  exact ⟨fun b r fz hb => hS.hb hv hb (by decide), fun b r fz hb => hS.hb hv hb (by decide)⟩
/-- a range of a frame's memory -/
theorem cut_mem {L : List Int} {lo n off q : Nat} (h : off + q ≤ n) (hL : lo + n ≤ L.length) : (L.drop (lo + off)).take q = ycut ((L.drop lo).take n) off q := by
  refine list_gd ?_ fun i hi => ?_
  · simp [ycut]; omega
  · have hq : i < q := by simp at hi; omega
    have e2 : (ycut ((L.drop lo).take n) off q).getD i 0 = ((L.drop lo).take n).getD (off + i) 0 := by simp [ycut, List.getD_eq_getElem?_getD, hq]
    rw [e2, List.getD_eq_getElem?_getD, List.getD_eq_getElem?_getD, List.getElem?_take, List.getElem?_take, if_pos hq, if_pos (by omega), List.getElem?_drop, List.getElem?_drop]
    congr 2; omega

set_option maxRecDepth 10000 in
theorem code_ex [Om] (C : Nat) (c : Array Value) (v : V) (B : VB) (β : Option Nat) (A : List Int) (w : World) (hv : VS w C c v B β) (hA : By A 20) (hcl : ∀ x ∈ v.accts, x.code.2.1 ≤ 256) : Ret Hvac.prog 71 #[.pointer (some ⟨C, 2435, none⟩), .agg (ic .u8 A)] w fun u w' => Ext w w' ∧ ∃ s', u = .slice s'.1 s'.2.1 s'.2.2 ∧ NewB w w' s' (rdB w (v.acY A).code) ∧ (∀ x ∈ rdB w (v.acY A).code, 0 ≤ x ∧ x ≤ 255) ∧ (rdB w (v.acY A).code).length = (v.acY A).code.2.1 := by
  have hAl := hA.1
  have hr0 := findA_range v A
  refine Ret_of_W Hvac.func71 rfl rfl ?_
  refine W_seq ?_
  refine W_region rfl ?_
  refine WO_box (.agg _) rfl ?_
  refine WO_p (PS_assign_slice rfl) ?_
  refine WO_nil ?_
  refine thn_normal ?_
  refine W_seq ?_
  refine W_seq ?_
  refine W_region rfl ?_
  refine WO_p (PS_move_ptr rfl) ?_
  refine WO_loadA _ Hvac.isAgg25 Hvac.sizeOf25 rfl (Hb.h (by repeat (first | assumption | exact Hb.newY _ _ | refine Hb.alloc ?_ | refine Hb.drew ?_ | refine Hb.ext (by assumption) ?_ | exact Hb.setSameL (by first | omega | (simp only [size_alloc, size_setB, size_drew]; omega)) | exact Hb.setSame (by assumption) | refine Hb.set (by first | omega | (simp only [size_alloc, size_setB, size_drew]; omega)) ?_ ))) (by first | omega | assumption | rfl | decide | exact Nat.le_refl _ | (simp only [size_ic, Value.cells]; omega) | (simp; omega) | simp) (Xt.h (by first | assumption | exact Xt.whole rfl rfl | exact Xt.whole rfl (by assumption) | exact Xt.whole rfl (by simp only [size_ic, Value.cells]; omega) | exact ⟨rfl⟩)) ?_
  refine WO_call Hvac.call147 (by rfl) (Ret.mono (findAcct_spec C c v B β A _ (hv.ext (by repeat (first | assumption | exact Ext.refl _ | refine Ext.alloc ?_ _ | refine Ext.drew ?_ | refine Ext.setB ?_ (by first | omega | (simp only [size_alloc, size_setB, size_drew]; omega)) _ | exact Ext.trans (by assumption) (by assumption) | refine Ext.trans ?_ (by assumption)))) hA) ?_)
  rintro _ w1 ⟨rfl, hE1⟩
  have hv1 := hv.ext (Ext.trans (by repeat (first | assumption | exact Ext.refl _ | refine Ext.alloc ?_ _ | refine Ext.drew ?_ | refine Ext.setB ?_ (by first | omega | (simp only [size_alloc, size_setB, size_drew]; omega)) _ | exact Ext.trans (by assumption) (by assumption) | refine Ext.trans ?_ (by assumption))) hE1)
  have hblk := hv1.blk
  have hsz1 := hE1.1
  simp only [size_alloc] at hsz1
  refine WO_p (PS_move_tuple rfl) ?_
  refine WO_p (PS_extract_int rfl rfl) ?_
  refine WO_p (PS_extract_int rfl rfl) ?_
  refine WO_p (PS_assign_int rfl) ?_
  refine WO_p (PS_assign_int rfl) ?_
  refine WO_nil ?_
  refine thn_normal ?_
  refine W_seq ?_
  refine W_region rfl ?_
  refine WO_p (PS_move_int rfl) ?_
  refine WO_p (PS_geq rfl rfl) ?_
  refine WO_nil ?_
  refine thn_normal ?_
  refine W_if rfl (fun hb3 => ?_) (fun hb3 => ?_)
  · have hb3p := hb3.h; try simp only [al_ete, al_dfn, Bool.not_eq_true', Bool.not_eq_false', al_ne, Bool.not_not, al_nn] at hb3p
    have h0 : 0 ≤ (v.findA A).1 := by omega
    obtain ⟨x, hx, hxA⟩ := findA_some h0
    obtain ⟨b, cap, r, hab, hcap, hr, hrs, hrow, hda, hbd, hil, hty, f0, f1, f2, f3, f4, f5, f6⟩ := hv1.openA hx
    have hlx : x.bal.length = 4 := hty.2.2.1
    have hg := get_some h0 hx
    have hBX := (hv.codes x (List.mem_of_getElem? hx)).rd
    have hLb := hBX.by_
    have hLl := hBX.len
    refine W_seq ?_
    refine W_region rfl ?_
    refine WO_p (PS_move_ptr rfl) ?_
    refine WO_p (PS_nilCheck rfl) ?_
    refine WO_p (PS_fieldAddr 0 Hvac.runUnderlying80 rfl Hvac.sizeOf71 rfl rfl) ?_
    refine WO_load (.slice _ _ _) Hvac.isAgg71 rfl (Hb.h (by repeat (first | assumption | exact Hb.newY _ _ | refine Hb.alloc ?_ | refine Hb.drew ?_ | refine Hb.ext (by assumption) ?_ | exact Hb.setSameL (by first | omega | (simp only [size_alloc, size_setB, size_drew]; omega)) | exact Hb.setSame (by assumption) | refine Hb.set (by first | omega | (simp only [size_alloc, size_setB, size_drew]; omega)) ?_ ))) (Ce.h (by first | assumption | exact ⟨rfl⟩)) ?_
    refine WO_p (PS_move_int rfl) ?_
    refine WO_p (PS_indexS Hvac.runUnderlying71 Hvac.sizeOf221 rfl rfl (by omega) (by omega)) ?_
    refine WO_p (PS_fieldAddr 25 Hvac.runUnderlying221 rfl Hvac.sizeOf32 rfl rfl) ?_
    refine WO_load (.slice _ _ _) Hvac.isAgg32 rfl (Hb.h (by repeat (first | assumption | exact Hb.newY _ _ | refine Hb.alloc ?_ | refine Hb.drew ?_ | refine Hb.ext (by assumption) ?_ | exact Hb.setSameL (by first | omega | (simp only [size_alloc, size_setB, size_drew]; omega)) | exact Hb.setSame (by assumption) | refine Hb.set (by first | omega | (simp only [size_alloc, size_setB, size_drew]; omega)) ?_ ))) (Ce.h (by first | assumption | exact ⟨rfl⟩)) ?_
    refine WO_call Hvac.call130 (by rfl) (Ret.mono (copied_spec x.code (rdB w x.code) _ (SC.ext hBX.sc (by repeat (first | assumption | exact Ext.refl _ | refine Ext.alloc ?_ _ | refine Ext.drew ?_ | refine Ext.setB ?_ (by first | omega | (simp only [size_alloc, size_setB, size_drew]; omega)) _ | exact Ext.trans (by assumption) (by assumption) | refine Ext.trans ?_ (by assumption)))) (by have := hcl x (List.mem_of_getElem? hx); omega)) ?_)
    rintro _ w2 ⟨hE2, s2, rfl, hn2⟩
    refine WO_p (PS_assign_slice rfl) ?_
    refine WO_nil ?_
    refine thn_normal ?_
    refine W_ret ?_
    refine thn_ret ?_
    refine bodyQ_ret1 Hvac.results71 rfl (.slice _ _ _) rfl ?_
    first
    | (rw [ac_non hg]; exact ⟨(by repeat (first | assumption | exact Ext.refl _ | refine Ext.alloc ?_ _ | refine Ext.drew ?_ | refine Ext.setB ?_ (by first | omega | (simp only [size_alloc, size_setB, size_drew]; omega)) _ | refine Ext.trans ?_ (by assumption))), (none, 0, 0), rfl, Or.inl ⟨rdB_nil _ _ _, rfl⟩, by rw [show (newA A).code = (none, 0, 0) from rfl, rdB_nil]; simp, by rw [show (newA A).code = (none, 0, 0) from rfl, rdB_nil]; rfl⟩)
    | (rw [ac_get hg]; exact ⟨(by repeat (first | assumption | exact Ext.refl _ | refine Ext.alloc ?_ _ | refine Ext.drew ?_ | refine Ext.setB ?_ (by first | omega | (simp only [size_alloc, size_setB, size_drew]; omega)) _ | refine Ext.trans ?_ (by assumption))), s2, rfl, hn2.mono (by omega), hLb, hLl⟩)
  · have hb3p := hb3.h; try simp only [al_ete, al_dfn, Bool.not_eq_true', Bool.not_eq_false', al_ne, Bool.not_not, al_nn] at hb3p
    have h0 : ¬ 0 ≤ (v.findA A).1 := by omega
    have hg := get_none h0
    refine W_skip ?_
    refine thn_normal ?_
    refine W_seq ?_
    refine W_region rfl ?_
    refine WO_p (PS_assign_slice rfl) ?_
    refine WO_nil ?_
    refine thn_normal ?_
    refine W_ret ?_
    refine bodyQ_ret1 Hvac.results71 rfl (.slice _ _ _) rfl ?_
    first
    | (rw [ac_non hg]; exact ⟨(by repeat (first | assumption | exact Ext.refl _ | refine Ext.alloc ?_ _ | refine Ext.drew ?_ | refine Ext.setB ?_ (by first | omega | (simp only [size_alloc, size_setB, size_drew]; omega)) _ | refine Ext.trans ?_ (by assumption))), (none, 0, 0), rfl, Or.inl ⟨rdB_nil _ _ _, rfl⟩, by rw [show (newA A).code = (none, 0, 0) from rfl, rdB_nil]; simp, by rw [show (newA A).code = (none, 0, 0) from rfl, rdB_nil]; rfl⟩)
    | (rw [ac_get hg]; exact ⟨(by repeat (first | assumption | exact Ext.refl _ | refine Ext.alloc ?_ _ | refine Ext.drew ?_ | refine Ext.setB ?_ (by first | omega | (simp only [size_alloc, size_setB, size_drew]; omega)) _ | refine Ext.trans ?_ (by assumption))), s2, rfl, hn2.mono (by omega), hLb, hLl⟩)

set_option maxRecDepth 10000 in
theorem empty_ex (b o : Nat) (r : Array Value) (x : Acct) (w : World) (hr : Hb w b (.cells r 221 (0, 0))) (f1 : Ce r (o + 20) (.int .u64 x.nonce)) (f2 : Xt r (o + 21) (o + 21 + 4) (ic .u64 x.bal)) (f3 : Ce r (o + 25) (.slice x.code.1 x.code.2.1 x.code.2.2)) (hb : Wd x.bal) (hbd : o + 29 ≤ r.size) : Ret Hvac.prog 348 #[.pointer (some ⟨b, o, none⟩)] w fun u w' => Ext w w' ∧ u = .bool (emptyA x) := by
  have hlx := hb.1
  refine Ret_of_W Hvac.func348 rfl rfl ?_
  refine W_seq ?_
  refine W_region rfl ?_
  refine WO_p (PS_assign_bool rfl) ?_
  refine WO_nil ?_
  refine thn_normal ?_
  refine W_seq ?_
  refine W_region rfl ?_
  refine WO_p (PS_move_ptr rfl) ?_
  refine WO_p (PS_nilCheck rfl) ?_
  refine WO_p (PS_fieldAddr 20 Hvac.runUnderlying221 rfl Hvac.sizeOf26 rfl rfl) ?_
  refine WO_load (.int _ _) Hvac.isAgg26 rfl (Hb.h (by repeat (first | assumption | exact Hb.newY _ _ | refine Hb.alloc ?_ | refine Hb.drew ?_ | refine Hb.ext (by assumption) ?_ | exact Hb.setSameL (by first | omega | (simp only [size_alloc, size_setB, size_drew]; omega)) | exact Hb.setSame (by assumption) | refine Hb.set (by first | omega | (simp only [size_alloc, size_setB, size_drew]; omega)) ?_ ))) (Ce.h (by first | assumption | exact ⟨rfl⟩)) ?_
  refine WO_p (PS_eql rfl rfl) ?_
  refine WO_p (PS_move_bool rfl) ?_
  refine WO_if (t := 8) rfl (fun hb2 => ?_) (fun hb2 => ?_)
  · have hb2p := hb2.h; try simp only [al_ete, al_dfn, Bool.not_eq_true', Bool.not_eq_false', al_ne, Bool.not_not, al_nn] at hb2p
    refine WO_guardT rfl rfl hb2.h ?_
    refine WO_p (PS_move_ptr rfl) ?_
    refine WO_guardT rfl rfl hb2.h ?_
    refine WO_p (PS_nilCheck rfl) ?_
    refine WO_guardT rfl rfl hb2.h ?_
    refine WO_p (PS_fieldAddr 21 Hvac.runUnderlying221 rfl Hvac.sizeOf61 rfl rfl) ?_
    refine WO_guardT rfl rfl hb2.h ?_
    refine WO_loadA _ Hvac.isAgg61 Hvac.sizeOf61 rfl (Hb.h (by repeat (first | assumption | exact Hb.newY _ _ | refine Hb.alloc ?_ | refine Hb.drew ?_ | refine Hb.ext (by assumption) ?_ | exact Hb.setSameL (by first | omega | (simp only [size_alloc, size_setB, size_drew]; omega)) | exact Hb.setSame (by assumption) | refine Hb.set (by first | omega | (simp only [size_alloc, size_setB, size_drew]; omega)) ?_ ))) (by first | omega | assumption | rfl | decide | exact Nat.le_refl _ | (simp only [size_ic, Value.cells]; omega) | (simp; omega) | simp) (Xt.h (by first | assumption | exact Xt.whole rfl rfl | exact Xt.whole rfl (by assumption) | exact Xt.whole rfl (by simp only [size_ic, Value.cells]; omega) | exact ⟨rfl⟩)) ?_
    refine WO_guardT rfl rfl hb2.h ?_
    refine WO_call Hvac.call223 (by rfl) (Ret.mono (isZero_spec x.bal _ hb) ?_)
    rintro _ w1 ⟨rfl, hE1⟩
    refine WO_p (PS_pickT rfl hb2.h rfl) ?_
    refine WO_p (PS_move_bool rfl) ?_
    refine WO_if (t := 15) rfl (fun hb5 => ?_) (fun hb5 => ?_)
    · have hb5p := hb5.h; try simp only [al_ete, al_dfn, Bool.not_eq_true', Bool.not_eq_false', al_ne, Bool.not_not, al_nn] at hb5p
      refine WO_guardT rfl rfl hb5.h ?_
      refine WO_p (PS_move_ptr rfl) ?_
      refine WO_guardT rfl rfl hb5.h ?_
      refine WO_p (PS_nilCheck rfl) ?_
      refine WO_guardT rfl rfl hb5.h ?_
      refine WO_p (PS_fieldAddr 25 Hvac.runUnderlying221 rfl Hvac.sizeOf32 rfl rfl) ?_
      refine WO_guardT rfl rfl hb5.h ?_
      refine WO_load (.slice _ _ _) Hvac.isAgg32 rfl (Hb.h (by repeat (first | assumption | exact Hb.newY _ _ | refine Hb.alloc ?_ | refine Hb.drew ?_ | refine Hb.ext (by assumption) ?_ | exact Hb.setSameL (by first | omega | (simp only [size_alloc, size_setB, size_drew]; omega)) | exact Hb.setSame (by assumption) | refine Hb.set (by first | omega | (simp only [size_alloc, size_setB, size_drew]; omega)) ?_ ))) (Ce.h (by first | assumption | exact ⟨rfl⟩)) ?_
      refine WO_guardT rfl rfl hb5.h ?_
      refine WO_p (PS_lenS Hvac.runUnderlying32 rfl) ?_
      refine WO_guardT rfl rfl hb5.h ?_
      refine WO_p (PS_eql rfl rfl) ?_
      refine WO_p (PS_pickT rfl hb5.h rfl) ?_
      refine WO_p (PS_assign_bool rfl) ?_
      refine WO_nil ?_
      refine thn_normal ?_
      refine W_ret ?_
      refine bodyQ_ret1 Hvac.results348 rfl (.bool _) rfl ?_
      refine ⟨(by repeat (first | assumption | exact Ext.refl _ | refine Ext.alloc ?_ _ | refine Ext.drew ?_ | refine Ext.setB ?_ (by first | omega | (simp only [size_alloc, size_setB, size_drew]; omega)) _ | refine Ext.trans ?_ (by assumption))), congrArg Value.bool ?_⟩
      unfold emptyA
      simp_all
    · have hb5p := hb5.h; try simp only [al_ete, al_dfn, Bool.not_eq_true', Bool.not_eq_false', al_ne, Bool.not_not, al_nn] at hb5p
      refine WO_guardF rfl rfl hb5.h ?_
      refine WO_guardF rfl rfl hb5.h ?_
      refine WO_guardF rfl rfl hb5.h ?_
      refine WO_guardF rfl rfl hb5.h ?_
      refine WO_guardF rfl rfl hb5.h ?_
      refine WO_guardF rfl rfl hb5.h ?_
      refine WO_p (PS_pickF rfl hb5.h rfl) ?_
      refine WO_p (PS_assign_bool rfl) ?_
      refine WO_nil ?_
      refine thn_normal ?_
      refine W_ret ?_
      refine bodyQ_ret1 Hvac.results348 rfl (.bool _) rfl ?_
      refine ⟨(by repeat (first | assumption | exact Ext.refl _ | refine Ext.alloc ?_ _ | refine Ext.drew ?_ | refine Ext.setB ?_ (by first | omega | (simp only [size_alloc, size_setB, size_drew]; omega)) _ | refine Ext.trans ?_ (by assumption))), congrArg Value.bool ?_⟩
      unfold emptyA
      simp_all
  · have hb2p := hb2.h; try simp only [al_ete, al_dfn, Bool.not_eq_true', Bool.not_eq_false', al_ne, Bool.not_not, al_nn] at hb2p
    refine WO_guardF rfl rfl hb2.h ?_
    refine WO_guardF rfl rfl hb2.h ?_
    refine WO_guardF rfl rfl hb2.h ?_
    refine WO_guardF rfl rfl hb2.h ?_
    refine WO_guardF rfl rfl hb2.h ?_
    refine WO_p (PS_pickF rfl hb2.h rfl) ?_
    refine WO_p (PS_move_bool rfl) ?_
    refine WO_guardF rfl rfl rfl ?_
    refine WO_guardF rfl rfl rfl ?_
    refine WO_guardF rfl rfl rfl ?_
    refine WO_guardF rfl rfl rfl ?_
    refine WO_guardF rfl rfl rfl ?_
    refine WO_guardF rfl rfl rfl ?_
    refine WO_p (PS_pickF rfl rfl rfl) ?_
    refine WO_p (PS_assign_bool rfl) ?_
    refine WO_nil ?_
    refine thn_normal ?_
    refine W_ret ?_
    refine bodyQ_ret1 Hvac.results348 rfl (.bool _) rfl ?_
    refine ⟨(by repeat (first | assumption | exact Ext.refl _ | refine Ext.alloc ?_ _ | refine Ext.drew ?_ | refine Ext.setB ?_ (by first | omega | (simp only [size_alloc, size_setB, size_drew]; omega)) _ | refine Ext.trans ?_ (by assumption))), congrArg Value.bool ?_⟩
    unfold emptyA
    simp_all

set_option maxRecDepth 10000 in
theorem isEmpty_ex [Om] (C : Nat) (c : Array Value) (v : V) (B : VB) (β : Option Nat) (A : List Int) (w : World) (hv : VS w C c v B β) (hA : By A 20) : Ret Hvac.prog 269 #[.pointer (some ⟨C, 2435, none⟩), .agg (ic .u8 A)] w fun u w' => Ext w w' ∧ u = .bool (emptyA (v.acY A)) := by
  have hAl := hA.1
  have hr0 := findA_range v A
  refine Ret_of_W Hvac.func269 rfl rfl ?_
  refine W_seq ?_
  refine W_region rfl ?_
  refine WO_box (.agg _) rfl ?_
  refine WO_p (PS_assign_bool rfl) ?_
  refine WO_nil ?_
  refine thn_normal ?_
  refine W_seq ?_
  refine W_region rfl ?_
  refine WO_p (PS_move_ptr rfl) ?_
  refine WO_loadA _ Hvac.isAgg25 Hvac.sizeOf25 rfl (Hb.h (by repeat (first | assumption | exact Hb.newY _ _ | refine Hb.alloc ?_ | refine Hb.drew ?_ | refine Hb.ext (by assumption) ?_ | exact Hb.setSameL (by first | omega | (simp only [size_alloc, size_setB, size_drew]; omega)) | exact Hb.setSame (by assumption) | refine Hb.set (by first | omega | (simp only [size_alloc, size_setB, size_drew]; omega)) ?_ ))) (by first | omega | assumption | rfl | decide | exact Nat.le_refl _ | (simp only [size_ic, Value.cells]; omega) | (simp; omega) | simp) (Xt.h (by first | assumption | exact Xt.whole rfl rfl | exact Xt.whole rfl (by assumption) | exact Xt.whole rfl (by simp only [size_ic, Value.cells]; omega) | exact ⟨rfl⟩)) ?_
  refine WO_call Hvac.call147 (by rfl) (Ret.mono (findAcct_spec C c v B β A _ (hv.ext (by repeat (first | assumption | exact Ext.refl _ | refine Ext.alloc ?_ _ | refine Ext.drew ?_ | refine Ext.setB ?_ (by first | omega | (simp only [size_alloc, size_setB, size_drew]; omega)) _ | exact Ext.trans (by assumption) (by assumption) | refine Ext.trans ?_ (by assumption)))) hA) ?_)
  rintro _ w1 ⟨rfl, hE1⟩
  have hv1 := hv.ext (Ext.trans (by repeat (first | assumption | exact Ext.refl _ | refine Ext.alloc ?_ _ | refine Ext.drew ?_ | refine Ext.setB ?_ (by first | omega | (simp only [size_alloc, size_setB, size_drew]; omega)) _ | exact Ext.trans (by assumption) (by assumption) | refine Ext.trans ?_ (by assumption))) hE1)
  have hblk := hv1.blk
  have hsz1 := hE1.1
  simp only [size_alloc] at hsz1
  refine WO_p (PS_move_tuple rfl) ?_
  refine WO_p (PS_extract_int rfl rfl) ?_
  refine WO_p (PS_extract_int rfl rfl) ?_
  refine WO_p (PS_assign_int rfl) ?_
  refine WO_p (PS_assign_int rfl) ?_
  refine WO_nil ?_
  refine thn_normal ?_
  refine W_seq ?_
  refine W_region rfl ?_
  refine WO_p (PS_move_int rfl) ?_
  refine WO_p (PS_lss rfl rfl) ?_
  refine WO_p (PS_move_bool rfl) ?_
  refine WO_if (t := 15) rfl (fun hb3 => ?_) (fun hb3 => ?_)
  · have hb3p := hb3.h; try simp only [al_ete, al_dfn, Bool.not_eq_true', Bool.not_eq_false', al_ne, Bool.not_not, al_nn] at hb3p
    have h0 : ¬ 0 ≤ (v.findA A).1 := by omega
    have hg := get_none h0
    refine WO_guardF rfl rfl hb3.h ?_
    refine WO_guardF rfl rfl hb3.h ?_
    refine WO_guardF rfl rfl hb3.h ?_
    refine WO_guardF rfl rfl hb3.h ?_
    refine WO_guardF rfl rfl hb3.h ?_
    refine WO_guardF rfl rfl hb3.h ?_
    refine WO_guardF rfl rfl hb3.h ?_
    refine WO_p (PS_pickT rfl hb3.h rfl) ?_
    refine WO_p (PS_assign_bool rfl) ?_
    refine WO_nil ?_
    refine thn_normal ?_
    refine W_ret ?_
    refine bodyQ_ret1 Hvac.results269 rfl (.bool _) rfl ?_
    first
    | (rw [ac_non hg]; exact ⟨(by repeat (first | assumption | exact Ext.refl _ | refine Ext.alloc ?_ _ | refine Ext.drew ?_ | refine Ext.setB ?_ (by first | omega | (simp only [size_alloc, size_setB, size_drew]; omega)) _ | refine Ext.trans ?_ (by assumption))), rfl⟩)
    | (rw [ac_get hg]; exact ⟨(by repeat (first | assumption | exact Ext.refl _ | refine Ext.alloc ?_ _ | refine Ext.drew ?_ | refine Ext.setB ?_ (by first | omega | (simp only [size_alloc, size_setB, size_drew]; omega)) _ | refine Ext.trans ?_ (by assumption))), rfl⟩)
  · have hb3p := hb3.h; try simp only [al_ete, al_dfn, Bool.not_eq_true', Bool.not_eq_false', al_ne, Bool.not_not, al_nn] at hb3p
    have h0 : 0 ≤ (v.findA A).1 := by omega
    obtain ⟨x, hx, hxA⟩ := findA_some h0
    obtain ⟨b, cap, r, hab, hcap, hr, hrs, hrow, hda, hbd, hil, hty, f0, f1, f2, f3, f4, f5, f6⟩ := hv1.openA hx
    have hlx : x.bal.length = 4 := hty.2.2.1
    have hg := get_some h0 hx
    refine WO_guardT rfl rfl hb3.h ?_
    refine WO_p (PS_move_ptr rfl) ?_
    refine WO_guardT rfl rfl hb3.h ?_
    refine WO_p (PS_nilCheck rfl) ?_
    refine WO_guardT rfl rfl hb3.h ?_
    refine WO_p (PS_fieldAddr 0 Hvac.runUnderlying80 rfl Hvac.sizeOf71 rfl rfl) ?_
    refine WO_guardT rfl rfl hb3.h ?_
    refine WO_load (.slice _ _ _) Hvac.isAgg71 rfl (Hb.h (by repeat (first | assumption | exact Hb.newY _ _ | refine Hb.alloc ?_ | refine Hb.drew ?_ | refine Hb.ext (by assumption) ?_ | exact Hb.setSameL (by first | omega | (simp only [size_alloc, size_setB, size_drew]; omega)) | exact Hb.setSame (by assumption) | refine Hb.set (by first | omega | (simp only [size_alloc, size_setB, size_drew]; omega)) ?_ ))) (Ce.h (by first | assumption | exact ⟨rfl⟩)) ?_
    refine WO_guardT rfl rfl hb3.h ?_
    refine WO_p (PS_move_int rfl) ?_
    refine WO_guardT rfl rfl hb3.h ?_
    refine WO_p (PS_indexS Hvac.runUnderlying71 Hvac.sizeOf221 rfl rfl (by omega) (by omega)) ?_
    refine WO_guardT rfl rfl hb3.h ?_
    refine WO_call Hvac.call348 (by rfl) (Ret.mono (empty_ex b _ r x _ hr f1 f2 f3 hty.2.2 hbd) ?_)
    rintro _ w2 ⟨hE2, rfl⟩
    refine WO_p (PS_pickF rfl hb3.h rfl) ?_
    refine WO_p (PS_assign_bool rfl) ?_
    refine WO_nil ?_
    refine thn_normal ?_
    refine W_ret ?_
    refine bodyQ_ret1 Hvac.results269 rfl (.bool _) rfl ?_
    first
    | (rw [ac_non hg]; exact ⟨(by repeat (first | assumption | exact Ext.refl _ | refine Ext.alloc ?_ _ | refine Ext.drew ?_ | refine Ext.setB ?_ (by first | omega | (simp only [size_alloc, size_setB, size_drew]; omega)) _ | refine Ext.trans ?_ (by assumption))), rfl⟩)
    | (rw [ac_get hg]; exact ⟨(by repeat (first | assumption | exact Ext.refl _ | refine Ext.alloc ?_ _ | refine Ext.drew ?_ | refine Ext.setB ?_ (by first | omega | (simp only [size_alloc, size_setB, size_drew]; omega)) _ | refine Ext.trans ?_ (by assumption))), rfl⟩)

set_option maxRecDepth 10000 in
theorem writes_ex [Om] (C : Nat) (c : Array Value) (v : V) (B : VB) (m : Mc) (t : Nat) (f : Fm) (o : Int) (w : World) (hM : MS w C c v B m) (hA : FrA m t f) (ho : 0 ≤ o ∧ o ≤ 255) : Ret Hvac.prog 238 #[.pointer (some ⟨C, 0, none⟩), .pointer (some ⟨C, 1803 + t * 65, none⟩), .int .u8 o] w fun u w' => Ext w w' ∧ u = .bool (writesW m f o) := by
  have hA0 := hA
  have hblk := hM.vs.blk
  have hCl := hblk.lt
  have hcs := hM.sz
  have hc_s := hM.rep.s
  obtain ⟨ht6, hf, hsb, hsp⟩ := hA0
  obtain ⟨ht7, hfty, hF⟩ := hM.openF hf
  have hw2 := argW_wd hM.ty f 2
  have hl2 := hw2.1
  refine Ret_of_W Hvac.func238 rfl rfl ?_
  refine W_seq ?_
  refine W_region rfl ?_
  refine WO_p (PS_assign_bool rfl) ?_
  refine WO_nil ?_
  refine thn_normal ?_
  refine W_seq ?_
  refine W_block ?_
  refine W_seq ?_
  refine W_seq ?_
  refine W_region rfl ?_
  refine WO_p (PS_move_int rfl) ?_
  refine WO_p (PS_eql rfl rfl) ?_
  refine WO_p (PS_assign_bool rfl) ?_
  refine WO_nil ?_
  refine thn_normal ?_
  refine W_if rfl (fun hb2 => ?_) (fun hb2 => ?_)
  · have hb2p := hb2.h; try simp only [al_ete, al_dfn, Bool.not_eq_true', Bool.not_eq_false', al_ne, Bool.not_not, al_nn] at hb2p
    refine W_skip ?_
    refine thn_normal ?_
    refine W_condT rfl hb2.h ?_
    refine W_seq ?_
    refine W_region rfl ?_
    refine WO_p (PS_assign_bool rfl) ?_
    refine WO_nil ?_
    refine thn_normal ?_
    refine W_ret ?_
    refine inBlk_ret ?_
    refine thn_ret ?_
    refine bodyQ_ret1 Hvac.results238 rfl (.bool _) rfl ?_
    first
    | exact ⟨(by repeat (first | assumption | exact Ext.refl _ | refine Ext.alloc ?_ _ | refine Ext.drew ?_ | refine Ext.setB ?_ (by first | omega | (simp only [size_alloc, size_setB, size_drew]; omega)) _ | refine Ext.trans ?_ (by assumption))), congrArg Value.bool (al_et (by omega)).symm⟩
    | exact ⟨(by repeat (first | assumption | exact Ext.refl _ | refine Ext.alloc ?_ _ | refine Ext.drew ?_ | refine Ext.setB ?_ (by first | omega | (simp only [size_alloc, size_setB, size_drew]; omega)) _ | refine Ext.trans ?_ (by assumption))), congrArg Value.bool (al_ef (by omega)).symm⟩
    | exact ⟨(by repeat (first | assumption | exact Ext.refl _ | refine Ext.alloc ?_ _ | refine Ext.drew ?_ | refine Ext.setB ?_ (by first | omega | (simp only [size_alloc, size_setB, size_drew]; omega)) _ | refine Ext.trans ?_ (by assumption))), congrArg Value.bool (by unfold writesW; rw [← al_dn]; exact al_dd.2 (by omega))⟩
  · have hb2p := hb2.h; try simp only [al_ete, al_dfn, Bool.not_eq_true', Bool.not_eq_false', al_ne, Bool.not_not, al_nn] at hb2p
    refine W_seq ?_
    refine W_region rfl ?_
    refine WO_p (PS_move_int rfl) ?_
    refine WO_p (PS_eql rfl rfl) ?_
    refine WO_p (PS_assign_bool rfl) ?_
    refine WO_nil ?_
    refine thn_normal ?_
    refine W_if rfl (fun hb4 => ?_) (fun hb4 => ?_)
    · have hb4p := hb4.h; try simp only [al_ete, al_dfn, Bool.not_eq_true', Bool.not_eq_false', al_ne, Bool.not_not, al_nn] at hb4p
      refine W_skip ?_
      refine thn_normal ?_
      refine W_condT rfl hb4.h ?_
      refine W_seq ?_
      refine W_region rfl ?_
      refine WO_p (PS_assign_bool rfl) ?_
      refine WO_nil ?_
      refine thn_normal ?_
      refine W_ret ?_
      refine inBlk_ret ?_
      refine thn_ret ?_
      refine bodyQ_ret1 Hvac.results238 rfl (.bool _) rfl ?_
      first
      | exact ⟨(by repeat (first | assumption | exact Ext.refl _ | refine Ext.alloc ?_ _ | refine Ext.drew ?_ | refine Ext.setB ?_ (by first | omega | (simp only [size_alloc, size_setB, size_drew]; omega)) _ | refine Ext.trans ?_ (by assumption))), congrArg Value.bool (al_et (by omega)).symm⟩
      | exact ⟨(by repeat (first | assumption | exact Ext.refl _ | refine Ext.alloc ?_ _ | refine Ext.drew ?_ | refine Ext.setB ?_ (by first | omega | (simp only [size_alloc, size_setB, size_drew]; omega)) _ | refine Ext.trans ?_ (by assumption))), congrArg Value.bool (al_ef (by omega)).symm⟩
      | exact ⟨(by repeat (first | assumption | exact Ext.refl _ | refine Ext.alloc ?_ _ | refine Ext.drew ?_ | refine Ext.setB ?_ (by first | omega | (simp only [size_alloc, size_setB, size_drew]; omega)) _ | refine Ext.trans ?_ (by assumption))), congrArg Value.bool (by unfold writesW; rw [← al_dn]; exact al_dd.2 (by omega))⟩
    · have hb4p := hb4.h; try simp only [al_ete, al_dfn, Bool.not_eq_true', Bool.not_eq_false', al_ne, Bool.not_not, al_nn] at hb4p
      refine W_seq ?_
      refine W_region rfl ?_
      refine WO_p (PS_move_int rfl) ?_
      refine WO_p (PS_geq rfl rfl) ?_
      refine WO_p (PS_move_bool rfl) ?_
      refine WO_if (t := 15) rfl (fun hb6 => ?_) (fun hb6 => ?_)
      · have hb6p := hb6.h; try simp only [al_ete, al_dfn, Bool.not_eq_true', Bool.not_eq_false', al_ne, Bool.not_not, al_nn] at hb6p
        refine WO_guardT rfl rfl hb6.h ?_
        refine WO_p (PS_move_int rfl) ?_
        refine WO_guardT rfl rfl hb6.h ?_
        refine WO_p (PS_leq rfl rfl) ?_
        refine WO_p (PS_pickT rfl hb6.h rfl) ?_
        refine WO_p (PS_assign_bool rfl) ?_
        refine WO_nil ?_
        refine thn_normal ?_
        refine W_if rfl (fun hb8 => ?_) (fun hb8 => ?_)
        · have hb8p := hb8.h; try simp only [al_ete, al_dfn, Bool.not_eq_true', Bool.not_eq_false', al_ne, Bool.not_not, al_nn] at hb8p
          refine W_skip ?_
          refine thn_normal ?_
          refine W_condT rfl hb8.h ?_
          refine W_seq ?_
          refine W_region rfl ?_
          refine WO_p (PS_assign_bool rfl) ?_
          refine WO_nil ?_
          refine thn_normal ?_
          refine W_ret ?_
          refine inBlk_ret ?_
          refine thn_ret ?_
          refine bodyQ_ret1 Hvac.results238 rfl (.bool _) rfl ?_
          first
          | exact ⟨(by repeat (first | assumption | exact Ext.refl _ | refine Ext.alloc ?_ _ | refine Ext.drew ?_ | refine Ext.setB ?_ (by first | omega | (simp only [size_alloc, size_setB, size_drew]; omega)) _ | refine Ext.trans ?_ (by assumption))), congrArg Value.bool (al_et (by omega)).symm⟩
          | exact ⟨(by repeat (first | assumption | exact Ext.refl _ | refine Ext.alloc ?_ _ | refine Ext.drew ?_ | refine Ext.setB ?_ (by first | omega | (simp only [size_alloc, size_setB, size_drew]; omega)) _ | refine Ext.trans ?_ (by assumption))), congrArg Value.bool (al_ef (by omega)).symm⟩
          | exact ⟨(by repeat (first | assumption | exact Ext.refl _ | refine Ext.alloc ?_ _ | refine Ext.drew ?_ | refine Ext.setB ?_ (by first | omega | (simp only [size_alloc, size_setB, size_drew]; omega)) _ | refine Ext.trans ?_ (by assumption))), congrArg Value.bool (by unfold writesW; rw [← al_dn]; exact al_dd.2 (by omega))⟩
        · have hb8p := hb8.h; try simp only [al_ete, al_dfn, Bool.not_eq_true', Bool.not_eq_false', al_ne, Bool.not_not, al_nn] at hb8p
          refine W_seq ?_
          refine W_region rfl ?_
          refine WO_p (PS_move_int rfl) ?_
          refine WO_p (PS_eql rfl rfl) ?_
          refine WO_p (PS_assign_bool rfl) ?_
          refine WO_nil ?_
          refine thn_normal ?_
          refine W_if rfl (fun hb10 => ?_) (fun hb10 => ?_)
          · have hb10p := hb10.h; try simp only [al_ete, al_dfn, Bool.not_eq_true', Bool.not_eq_false', al_ne, Bool.not_not, al_nn] at hb10p
            refine W_skip ?_
            refine thn_normal ?_
            refine W_condT rfl hb10.h ?_
            refine W_seq ?_
            refine W_region rfl ?_
            refine WO_p (PS_assign_bool rfl) ?_
            refine WO_nil ?_
            refine thn_normal ?_
            refine W_ret ?_
            refine inBlk_ret ?_
            refine thn_ret ?_
            refine bodyQ_ret1 Hvac.results238 rfl (.bool _) rfl ?_
            first
            | exact ⟨(by repeat (first | assumption | exact Ext.refl _ | refine Ext.alloc ?_ _ | refine Ext.drew ?_ | refine Ext.setB ?_ (by first | omega | (simp only [size_alloc, size_setB, size_drew]; omega)) _ | refine Ext.trans ?_ (by assumption))), congrArg Value.bool (al_et (by omega)).symm⟩
            | exact ⟨(by repeat (first | assumption | exact Ext.refl _ | refine Ext.alloc ?_ _ | refine Ext.drew ?_ | refine Ext.setB ?_ (by first | omega | (simp only [size_alloc, size_setB, size_drew]; omega)) _ | refine Ext.trans ?_ (by assumption))), congrArg Value.bool (al_ef (by omega)).symm⟩
            | exact ⟨(by repeat (first | assumption | exact Ext.refl _ | refine Ext.alloc ?_ _ | refine Ext.drew ?_ | refine Ext.setB ?_ (by first | omega | (simp only [size_alloc, size_setB, size_drew]; omega)) _ | refine Ext.trans ?_ (by assumption))), congrArg Value.bool (by unfold writesW; rw [← al_dn]; exact al_dd.2 (by omega))⟩
          · have hb10p := hb10.h; try simp only [al_ete, al_dfn, Bool.not_eq_true', Bool.not_eq_false', al_ne, Bool.not_not, al_nn] at hb10p
            refine W_seq ?_
            refine W_region rfl ?_
            refine WO_p (PS_move_int rfl) ?_
            refine WO_p (PS_eql rfl rfl) ?_
            refine WO_p (PS_assign_bool rfl) ?_
            refine WO_nil ?_
            refine thn_normal ?_
            refine W_if rfl (fun hb12 => ?_) (fun hb12 => ?_)
            · have hb12p := hb12.h; try simp only [al_ete, al_dfn, Bool.not_eq_true', Bool.not_eq_false', al_ne, Bool.not_not, al_nn] at hb12p
              refine W_skip ?_
              refine thn_normal ?_
              refine W_condT rfl hb12.h ?_
              refine W_seq ?_
              refine W_region rfl ?_
              refine WO_p (PS_assign_bool rfl) ?_
              refine WO_nil ?_
              refine thn_normal ?_
              refine W_ret ?_
              refine inBlk_ret ?_
              refine thn_ret ?_
              refine bodyQ_ret1 Hvac.results238 rfl (.bool _) rfl ?_
              first
              | exact ⟨(by repeat (first | assumption | exact Ext.refl _ | refine Ext.alloc ?_ _ | refine Ext.drew ?_ | refine Ext.setB ?_ (by first | omega | (simp only [size_alloc, size_setB, size_drew]; omega)) _ | refine Ext.trans ?_ (by assumption))), congrArg Value.bool (al_et (by omega)).symm⟩
              | exact ⟨(by repeat (first | assumption | exact Ext.refl _ | refine Ext.alloc ?_ _ | refine Ext.drew ?_ | refine Ext.setB ?_ (by first | omega | (simp only [size_alloc, size_setB, size_drew]; omega)) _ | refine Ext.trans ?_ (by assumption))), congrArg Value.bool (al_ef (by omega)).symm⟩
              | exact ⟨(by repeat (first | assumption | exact Ext.refl _ | refine Ext.alloc ?_ _ | refine Ext.drew ?_ | refine Ext.setB ?_ (by first | omega | (simp only [size_alloc, size_setB, size_drew]; omega)) _ | refine Ext.trans ?_ (by assumption))), congrArg Value.bool (by unfold writesW; rw [← al_dn]; exact al_dd.2 (by omega))⟩
            · have hb12p := hb12.h; try simp only [al_ete, al_dfn, Bool.not_eq_true', Bool.not_eq_false', al_ne, Bool.not_not, al_nn] at hb12p
              refine W_region rfl ?_
              refine WO_p (PS_move_int rfl) ?_
              refine WO_p (PS_eql rfl rfl) ?_
              refine WO_p (PS_assign_bool rfl) ?_
              refine WO_nil ?_
              refine thn_normal ?_
              refine W_if rfl (fun hb14 => ?_) (fun hb14 => ?_)
              · have hb14p := hb14.h; try simp only [al_ete, al_dfn, Bool.not_eq_true', Bool.not_eq_false', al_ne, Bool.not_not, al_nn] at hb14p
                refine W_seq ?_
                refine W_region rfl ?_
                refine WO_p (PS_assign_bool rfl) ?_
                refine WO_nil ?_
                refine thn_normal ?_
                refine W_ret ?_
                refine inBlk_ret ?_
                refine thn_ret ?_
                refine bodyQ_ret1 Hvac.results238 rfl (.bool _) rfl ?_
                first
                | exact ⟨(by repeat (first | assumption | exact Ext.refl _ | refine Ext.alloc ?_ _ | refine Ext.drew ?_ | refine Ext.setB ?_ (by first | omega | (simp only [size_alloc, size_setB, size_drew]; omega)) _ | refine Ext.trans ?_ (by assumption))), congrArg Value.bool (al_et (by omega)).symm⟩
                | exact ⟨(by repeat (first | assumption | exact Ext.refl _ | refine Ext.alloc ?_ _ | refine Ext.drew ?_ | refine Ext.setB ?_ (by first | omega | (simp only [size_alloc, size_setB, size_drew]; omega)) _ | refine Ext.trans ?_ (by assumption))), congrArg Value.bool (al_ef (by omega)).symm⟩
                | exact ⟨(by repeat (first | assumption | exact Ext.refl _ | refine Ext.alloc ?_ _ | refine Ext.drew ?_ | refine Ext.setB ?_ (by first | omega | (simp only [size_alloc, size_setB, size_drew]; omega)) _ | refine Ext.trans ?_ (by assumption))), congrArg Value.bool (by unfold writesW; rw [← al_dn]; exact al_dd.2 (by omega))⟩
              · have hb14p := hb14.h; try simp only [al_ete, al_dfn, Bool.not_eq_true', Bool.not_eq_false', al_ne, Bool.not_not, al_nn] at hb14p
                refine W_seq ?_
                refine W_region rfl ?_
                refine WO_p (PS_move_int rfl) ?_
                refine WO_p (PS_eql rfl rfl) ?_
                refine WO_p (PS_assign_bool rfl) ?_
                refine WO_nil ?_
                refine thn_normal ?_
                refine W_if rfl (fun hb16 => ?_) (fun hb16 => ?_)
                · have hb16p := hb16.h; try simp only [al_ete, al_dfn, Bool.not_eq_true', Bool.not_eq_false', al_ne, Bool.not_not, al_nn] at hb16p
                  refine W_seq ?_
                  refine W_region rfl ?_
                  refine WO_p (PS_move_ptr rfl) ?_
                  refine WO_p (PS_move_ptr rfl) ?_
                  refine WO_call Hvac.call239 (by rfl) (Ret.mono (arg_spec C c v B m t f _ _ (MS.ext hM (by repeat (first | assumption | exact Ext.refl _ | refine Ext.alloc ?_ _ | refine Ext.drew ?_ | refine Ext.setB ?_ (by first | omega | (simp only [size_alloc, size_setB, size_drew]; omega)) _ | exact Ext.trans (by assumption) (by assumption) | refine Ext.trans ?_ (by assumption)))) hA (by omega)) ?_)
                  rintro _ w239_16 ⟨hE239_16, rfl⟩
                  have hz239_16 := hE239_16.1
                  try simp only [size_alloc, size_setB, size_drew] at hz239_16
                  refine WO_allocG Hvac.zeroValue61 ?_
                  intro b7 v7 hg7 hE7 hH7 hl7
                  try simp only [size_alloc, size_setB, size_drew] at hg7
                  have hzz7 := hE7.1
                  try simp only [size_alloc, size_setB, size_drew] at hzz7
                  first | refine WO_storeW Hvac.sizeOf61 rfl (v := .agg _) rfl (Hb.h (by repeat (first | assumption | exact Hb.newY _ _ | refine Hb.alloc ?_ | refine Hb.drew ?_ | refine Hb.ext (by assumption) ?_ | exact Hb.setSameL (by first | omega | (simp only [size_alloc, size_setB, size_drew]; omega)) | exact Hb.setSame (by assumption) | refine Hb.set (by first | omega | (simp only [size_alloc, size_setB, size_drew]; omega)) ?_ ))) rfl (by first | omega | assumption | rfl | decide | exact Nat.le_refl _ | (simp only [size_ic, Value.cells]; omega) | (simp; omega) | simp) (by first | omega | assumption | rfl | decide | exact Nat.le_refl _ | (simp only [size_ic, Value.cells]; omega) | (simp; omega) | simp) (by first | exact oneCell_ic | assumption | exact one_Ws2 _ | exact one_YA2 _ | exact one_YSl2 _ | exact one_YM2 _ | exact one_YT2 _ | exact one_L2 _) ?_ | refine WO_store Hvac.sizeOf61 rfl (v := .agg _) rfl (Hb.h (by repeat (first | assumption | exact Hb.newY _ _ | refine Hb.alloc ?_ | refine Hb.drew ?_ | refine Hb.ext (by assumption) ?_ | exact Hb.setSameL (by first | omega | (simp only [size_alloc, size_setB, size_drew]; omega)) | exact Hb.setSame (by assumption) | refine Hb.set (by first | omega | (simp only [size_alloc, size_setB, size_drew]; omega)) ?_ ))) (by first | omega | assumption | rfl | decide | exact Nat.le_refl _ | (simp only [size_ic, Value.cells]; omega) | (simp; omega) | simp) (by first | omega | assumption | rfl | decide | exact Nat.le_refl _ | (simp only [size_ic, Value.cells]; omega) | (simp; omega) | simp) (by first | exact oneCell_ic | assumption | exact one_Ws2 _ | exact one_YA2 _ | exact one_YSl2 _ | exact one_YM2 _ | exact one_YT2 _ | exact one_L2 _) ?_
                  refine WO_nil ?_
                  refine thn_normal ?_
                  refine W_seq ?_
                  refine W_region rfl ?_
                  refine WO_loadA _ Hvac.isAgg61 Hvac.sizeOf61 rfl (Hb.h (by repeat (first | assumption | exact Hb.newY _ _ | refine Hb.alloc ?_ | refine Hb.drew ?_ | refine Hb.ext (by assumption) ?_ | exact Hb.setSameL (by first | omega | (simp only [size_alloc, size_setB, size_drew]; omega)) | exact Hb.setSame (by assumption) | refine Hb.set (by first | omega | (simp only [size_alloc, size_setB, size_drew]; omega)) ?_ ))) (by first | omega | assumption | rfl | decide | exact Nat.le_refl _ | (simp only [size_ic, Value.cells]; omega) | (simp; omega) | simp) (Xt.h (by first | assumption | exact Xt.whole rfl rfl | exact Xt.whole rfl (by assumption) | exact Xt.whole rfl (by simp only [size_ic, Value.cells]; omega) | exact ⟨rfl⟩)) ?_
                  refine WO_call Hvac.call223 (by rfl) (Ret.mono (isz_spec _ _ (by first | assumption | exact argW_wd hM.ty _ _ | exact Wd0)) ?_)
                  rintro _ w223_17 ⟨rfl, hE223_17⟩
                  have hz223_17 := hE223_17.1
                  try simp only [size_alloc, size_setB, size_drew] at hz223_17
                  refine WO_p (PS_not rfl) ?_
                  refine WO_p (PS_assign_bool rfl) ?_
                  refine WO_nil ?_
                  refine thn_normal ?_
                  refine W_ret ?_
                  refine inBlk_ret ?_
                  refine thn_ret ?_
                  refine bodyQ_ret1 Hvac.results238 rfl (.bool _) rfl ?_
                  first
                  | exact ⟨(by repeat (first | assumption | exact Ext.refl _ | refine Ext.alloc ?_ _ | refine Ext.drew ?_ | refine Ext.setB ?_ (by first | omega | (simp only [size_alloc, size_setB, size_drew]; omega)) _ | refine Ext.trans ?_ (by assumption))), congrArg Value.bool (al_et (by omega)).symm⟩
                  | exact ⟨(by repeat (first | assumption | exact Ext.refl _ | refine Ext.alloc ?_ _ | refine Ext.drew ?_ | refine Ext.setB ?_ (by first | omega | (simp only [size_alloc, size_setB, size_drew]; omega)) _ | refine Ext.trans ?_ (by assumption))), congrArg Value.bool (al_ef (by omega)).symm⟩
                  | exact ⟨(by repeat (first | assumption | exact Ext.refl _ | refine Ext.alloc ?_ _ | refine Ext.drew ?_ | refine Ext.setB ?_ (by first | omega | (simp only [size_alloc, size_setB, size_drew]; omega)) _ | refine Ext.trans ?_ (by assumption))), congrArg Value.bool (by unfold writesW; rw [← al_dn]; exact al_dd.2 (by omega))⟩
                · have hb16p := hb16.h; try simp only [al_ete, al_dfn, Bool.not_eq_true', Bool.not_eq_false', al_ne, Bool.not_not, al_nn] at hb16p
                  refine W_skip ?_
                  refine inBlk_normal ?_
                  refine thn_normal ?_
                  refine W_seq ?_
                  refine W_region rfl ?_
                  refine WO_p (PS_assign_bool rfl) ?_
                  refine WO_nil ?_
                  refine thn_normal ?_
                  refine W_ret ?_
                  refine bodyQ_ret1 Hvac.results238 rfl (.bool _) rfl ?_
                  first
                  | exact ⟨(by repeat (first | assumption | exact Ext.refl _ | refine Ext.alloc ?_ _ | refine Ext.drew ?_ | refine Ext.setB ?_ (by first | omega | (simp only [size_alloc, size_setB, size_drew]; omega)) _ | refine Ext.trans ?_ (by assumption))), congrArg Value.bool (al_et (by omega)).symm⟩
                  | exact ⟨(by repeat (first | assumption | exact Ext.refl _ | refine Ext.alloc ?_ _ | refine Ext.drew ?_ | refine Ext.setB ?_ (by first | omega | (simp only [size_alloc, size_setB, size_drew]; omega)) _ | refine Ext.trans ?_ (by assumption))), congrArg Value.bool (al_ef (by omega)).symm⟩
                  | exact ⟨(by repeat (first | assumption | exact Ext.refl _ | refine Ext.alloc ?_ _ | refine Ext.drew ?_ | refine Ext.setB ?_ (by first | omega | (simp only [size_alloc, size_setB, size_drew]; omega)) _ | refine Ext.trans ?_ (by assumption))), congrArg Value.bool (by unfold writesW; rw [← al_dn]; exact al_dd.2 (by omega))⟩
      · have hb6p := hb6.h; try simp only [al_ete, al_dfn, Bool.not_eq_true', Bool.not_eq_false', al_ne, Bool.not_not, al_nn] at hb6p
        refine WO_guardF rfl rfl hb6.h ?_
        refine WO_guardF rfl rfl hb6.h ?_
        refine WO_p (PS_pickF rfl hb6.h rfl) ?_
        refine WO_p (PS_assign_bool rfl) ?_
        refine WO_nil ?_
        refine thn_normal ?_
        refine W_condF rfl rfl ?_
        refine W_seq ?_
        refine W_region rfl ?_
        refine WO_p (PS_move_int rfl) ?_
        refine WO_p (PS_eql rfl rfl) ?_
        refine WO_p (PS_assign_bool rfl) ?_
        refine WO_nil ?_
        refine thn_normal ?_
        refine W_if rfl (fun hb22 => ?_) (fun hb22 => ?_)
        · have hb22p := hb22.h; try simp only [al_ete, al_dfn, Bool.not_eq_true', Bool.not_eq_false', al_ne, Bool.not_not, al_nn] at hb22p
          refine W_skip ?_
          refine thn_normal ?_
          refine W_condT rfl hb22.h ?_
          refine W_seq ?_
          refine W_region rfl ?_
          refine WO_p (PS_assign_bool rfl) ?_
          refine WO_nil ?_
          refine thn_normal ?_
          refine W_ret ?_
          refine inBlk_ret ?_
          refine thn_ret ?_
          refine bodyQ_ret1 Hvac.results238 rfl (.bool _) rfl ?_
          first
          | exact ⟨(by repeat (first | assumption | exact Ext.refl _ | refine Ext.alloc ?_ _ | refine Ext.drew ?_ | refine Ext.setB ?_ (by first | omega | (simp only [size_alloc, size_setB, size_drew]; omega)) _ | refine Ext.trans ?_ (by assumption))), congrArg Value.bool (al_et (by omega)).symm⟩
          | exact ⟨(by repeat (first | assumption | exact Ext.refl _ | refine Ext.alloc ?_ _ | refine Ext.drew ?_ | refine Ext.setB ?_ (by first | omega | (simp only [size_alloc, size_setB, size_drew]; omega)) _ | refine Ext.trans ?_ (by assumption))), congrArg Value.bool (al_ef (by omega)).symm⟩
          | exact ⟨(by repeat (first | assumption | exact Ext.refl _ | refine Ext.alloc ?_ _ | refine Ext.drew ?_ | refine Ext.setB ?_ (by first | omega | (simp only [size_alloc, size_setB, size_drew]; omega)) _ | refine Ext.trans ?_ (by assumption))), congrArg Value.bool (by unfold writesW; rw [← al_dn]; exact al_dd.2 (by omega))⟩
        · have hb22p := hb22.h; try simp only [al_ete, al_dfn, Bool.not_eq_true', Bool.not_eq_false', al_ne, Bool.not_not, al_nn] at hb22p
          refine W_seq ?_
          refine W_region rfl ?_
          refine WO_p (PS_move_int rfl) ?_
          refine WO_p (PS_eql rfl rfl) ?_
          refine WO_p (PS_assign_bool rfl) ?_
          refine WO_nil ?_
          refine thn_normal ?_
          refine W_if rfl (fun hb24 => ?_) (fun hb24 => ?_)
          · have hb24p := hb24.h; try simp only [al_ete, al_dfn, Bool.not_eq_true', Bool.not_eq_false', al_ne, Bool.not_not, al_nn] at hb24p
            refine W_skip ?_
            refine thn_normal ?_
            refine W_condT rfl hb24.h ?_
            refine W_seq ?_
            refine W_region rfl ?_
            refine WO_p (PS_assign_bool rfl) ?_
            refine WO_nil ?_
            refine thn_normal ?_
            refine W_ret ?_
            refine inBlk_ret ?_
            refine thn_ret ?_
            refine bodyQ_ret1 Hvac.results238 rfl (.bool _) rfl ?_
            first
            | exact ⟨(by repeat (first | assumption | exact Ext.refl _ | refine Ext.alloc ?_ _ | refine Ext.drew ?_ | refine Ext.setB ?_ (by first | omega | (simp only [size_alloc, size_setB, size_drew]; omega)) _ | refine Ext.trans ?_ (by assumption))), congrArg Value.bool (al_et (by omega)).symm⟩
            | exact ⟨(by repeat (first | assumption | exact Ext.refl _ | refine Ext.alloc ?_ _ | refine Ext.drew ?_ | refine Ext.setB ?_ (by first | omega | (simp only [size_alloc, size_setB, size_drew]; omega)) _ | refine Ext.trans ?_ (by assumption))), congrArg Value.bool (al_ef (by omega)).symm⟩
            | exact ⟨(by repeat (first | assumption | exact Ext.refl _ | refine Ext.alloc ?_ _ | refine Ext.drew ?_ | refine Ext.setB ?_ (by first | omega | (simp only [size_alloc, size_setB, size_drew]; omega)) _ | refine Ext.trans ?_ (by assumption))), congrArg Value.bool (by unfold writesW; rw [← al_dn]; exact al_dd.2 (by omega))⟩
          · have hb24p := hb24.h; try simp only [al_ete, al_dfn, Bool.not_eq_true', Bool.not_eq_false', al_ne, Bool.not_not, al_nn] at hb24p
            refine W_region rfl ?_
            refine WO_p (PS_move_int rfl) ?_
            refine WO_p (PS_eql rfl rfl) ?_
            refine WO_p (PS_assign_bool rfl) ?_
            refine WO_nil ?_
            refine thn_normal ?_
            refine W_if rfl (fun hb26 => ?_) (fun hb26 => ?_)
            · have hb26p := hb26.h; try simp only [al_ete, al_dfn, Bool.not_eq_true', Bool.not_eq_false', al_ne, Bool.not_not, al_nn] at hb26p
              refine W_seq ?_
              refine W_region rfl ?_
              refine WO_p (PS_assign_bool rfl) ?_
              refine WO_nil ?_
              refine thn_normal ?_
              refine W_ret ?_
              refine inBlk_ret ?_
              refine thn_ret ?_
              refine bodyQ_ret1 Hvac.results238 rfl (.bool _) rfl ?_
              first
              | exact ⟨(by repeat (first | assumption | exact Ext.refl _ | refine Ext.alloc ?_ _ | refine Ext.drew ?_ | refine Ext.setB ?_ (by first | omega | (simp only [size_alloc, size_setB, size_drew]; omega)) _ | refine Ext.trans ?_ (by assumption))), congrArg Value.bool (al_et (by omega)).symm⟩
              | exact ⟨(by repeat (first | assumption | exact Ext.refl _ | refine Ext.alloc ?_ _ | refine Ext.drew ?_ | refine Ext.setB ?_ (by first | omega | (simp only [size_alloc, size_setB, size_drew]; omega)) _ | refine Ext.trans ?_ (by assumption))), congrArg Value.bool (al_ef (by omega)).symm⟩
              | exact ⟨(by repeat (first | assumption | exact Ext.refl _ | refine Ext.alloc ?_ _ | refine Ext.drew ?_ | refine Ext.setB ?_ (by first | omega | (simp only [size_alloc, size_setB, size_drew]; omega)) _ | refine Ext.trans ?_ (by assumption))), congrArg Value.bool (by unfold writesW; rw [← al_dn]; exact al_dd.2 (by omega))⟩
            · have hb26p := hb26.h; try simp only [al_ete, al_dfn, Bool.not_eq_true', Bool.not_eq_false', al_ne, Bool.not_not, al_nn] at hb26p
              refine W_seq ?_
              refine W_region rfl ?_
              refine WO_p (PS_move_int rfl) ?_
              refine WO_p (PS_eql rfl rfl) ?_
              refine WO_p (PS_assign_bool rfl) ?_
              refine WO_nil ?_
              refine thn_normal ?_
              refine W_if rfl (fun hb28 => ?_) (fun hb28 => ?_)
              · have hb28p := hb28.h; try simp only [al_ete, al_dfn, Bool.not_eq_true', Bool.not_eq_false', al_ne, Bool.not_not, al_nn] at hb28p
                refine W_seq ?_
                refine W_region rfl ?_
                refine WO_p (PS_move_ptr rfl) ?_
                refine WO_p (PS_move_ptr rfl) ?_
                refine WO_call Hvac.call239 (by rfl) (Ret.mono (arg_spec C c v B m t f _ _ (MS.ext hM (by repeat (first | assumption | exact Ext.refl _ | refine Ext.alloc ?_ _ | refine Ext.drew ?_ | refine Ext.setB ?_ (by first | omega | (simp only [size_alloc, size_setB, size_drew]; omega)) _ | exact Ext.trans (by assumption) (by assumption) | refine Ext.trans ?_ (by assumption)))) hA (by omega)) ?_)
                rintro _ w239_28 ⟨hE239_28, rfl⟩
                have hz239_28 := hE239_28.1
                try simp only [size_alloc, size_setB, size_drew] at hz239_28
                refine WO_allocG Hvac.zeroValue61 ?_
                intro b7 v7 hg7 hE7 hH7 hl7
                try simp only [size_alloc, size_setB, size_drew] at hg7
                have hzz7 := hE7.1
                try simp only [size_alloc, size_setB, size_drew] at hzz7
                first | refine WO_storeW Hvac.sizeOf61 rfl (v := .agg _) rfl (Hb.h (by repeat (first | assumption | exact Hb.newY _ _ | refine Hb.alloc ?_ | refine Hb.drew ?_ | refine Hb.ext (by assumption) ?_ | exact Hb.setSameL (by first | omega | (simp only [size_alloc, size_setB, size_drew]; omega)) | exact Hb.setSame (by assumption) | refine Hb.set (by first | omega | (simp only [size_alloc, size_setB, size_drew]; omega)) ?_ ))) rfl (by first | omega | assumption | rfl | decide | exact Nat.le_refl _ | (simp only [size_ic, Value.cells]; omega) | (simp; omega) | simp) (by first | omega | assumption | rfl | decide | exact Nat.le_refl _ | (simp only [size_ic, Value.cells]; omega) | (simp; omega) | simp) (by first | exact oneCell_ic | assumption | exact one_Ws2 _ | exact one_YA2 _ | exact one_YSl2 _ | exact one_YM2 _ | exact one_YT2 _ | exact one_L2 _) ?_ | refine WO_store Hvac.sizeOf61 rfl (v := .agg _) rfl (Hb.h (by repeat (first | assumption | exact Hb.newY _ _ | refine Hb.alloc ?_ | refine Hb.drew ?_ | refine Hb.ext (by assumption) ?_ | exact Hb.setSameL (by first | omega | (simp only [size_alloc, size_setB, size_drew]; omega)) | exact Hb.setSame (by assumption) | refine Hb.set (by first | omega | (simp only [size_alloc, size_setB, size_drew]; omega)) ?_ ))) (by first | omega | assumption | rfl | decide | exact Nat.le_refl _ | (simp only [size_ic, Value.cells]; omega) | (simp; omega) | simp) (by first | omega | assumption | rfl | decide | exact Nat.le_refl _ | (simp only [size_ic, Value.cells]; omega) | (simp; omega) | simp) (by first | exact oneCell_ic | assumption | exact one_Ws2 _ | exact one_YA2 _ | exact one_YSl2 _ | exact one_YM2 _ | exact one_YT2 _ | exact one_L2 _) ?_
                refine WO_nil ?_
                refine thn_normal ?_
                refine W_seq ?_
                refine W_region rfl ?_
                refine WO_loadA _ Hvac.isAgg61 Hvac.sizeOf61 rfl (Hb.h (by repeat (first | assumption | exact Hb.newY _ _ | refine Hb.alloc ?_ | refine Hb.drew ?_ | refine Hb.ext (by assumption) ?_ | exact Hb.setSameL (by first | omega | (simp only [size_alloc, size_setB, size_drew]; omega)) | exact Hb.setSame (by assumption) | refine Hb.set (by first | omega | (simp only [size_alloc, size_setB, size_drew]; omega)) ?_ ))) (by first | omega | assumption | rfl | decide | exact Nat.le_refl _ | (simp only [size_ic, Value.cells]; omega) | (simp; omega) | simp) (Xt.h (by first | assumption | exact Xt.whole rfl rfl | exact Xt.whole rfl (by assumption) | exact Xt.whole rfl (by simp only [size_ic, Value.cells]; omega) | exact ⟨rfl⟩)) ?_
                refine WO_call Hvac.call223 (by rfl) (Ret.mono (isz_spec _ _ (by first | assumption | exact argW_wd hM.ty _ _ | exact Wd0)) ?_)
                rintro _ w223_29 ⟨rfl, hE223_29⟩
                have hz223_29 := hE223_29.1
                try simp only [size_alloc, size_setB, size_drew] at hz223_29
                refine WO_p (PS_not rfl) ?_
                refine WO_p (PS_assign_bool rfl) ?_
                refine WO_nil ?_
                refine thn_normal ?_
                refine W_ret ?_
                refine inBlk_ret ?_
                refine thn_ret ?_
                refine bodyQ_ret1 Hvac.results238 rfl (.bool _) rfl ?_
                first
                | exact ⟨(by repeat (first | assumption | exact Ext.refl _ | refine Ext.alloc ?_ _ | refine Ext.drew ?_ | refine Ext.setB ?_ (by first | omega | (simp only [size_alloc, size_setB, size_drew]; omega)) _ | refine Ext.trans ?_ (by assumption))), congrArg Value.bool (al_et (by omega)).symm⟩
                | exact ⟨(by repeat (first | assumption | exact Ext.refl _ | refine Ext.alloc ?_ _ | refine Ext.drew ?_ | refine Ext.setB ?_ (by first | omega | (simp only [size_alloc, size_setB, size_drew]; omega)) _ | refine Ext.trans ?_ (by assumption))), congrArg Value.bool (al_ef (by omega)).symm⟩
                | exact ⟨(by repeat (first | assumption | exact Ext.refl _ | refine Ext.alloc ?_ _ | refine Ext.drew ?_ | refine Ext.setB ?_ (by first | omega | (simp only [size_alloc, size_setB, size_drew]; omega)) _ | refine Ext.trans ?_ (by assumption))), congrArg Value.bool (by unfold writesW; rw [← al_dn]; exact al_dd.2 (by omega))⟩
              · have hb28p := hb28.h; try simp only [al_ete, al_dfn, Bool.not_eq_true', Bool.not_eq_false', al_ne, Bool.not_not, al_nn] at hb28p
                refine W_skip ?_
                refine inBlk_normal ?_
                refine thn_normal ?_
                refine W_seq ?_
                refine W_region rfl ?_
                refine WO_p (PS_assign_bool rfl) ?_
                refine WO_nil ?_
                refine thn_normal ?_
                refine W_ret ?_
                refine bodyQ_ret1 Hvac.results238 rfl (.bool _) rfl ?_
                first
                | exact ⟨(by repeat (first | assumption | exact Ext.refl _ | refine Ext.alloc ?_ _ | refine Ext.drew ?_ | refine Ext.setB ?_ (by first | omega | (simp only [size_alloc, size_setB, size_drew]; omega)) _ | refine Ext.trans ?_ (by assumption))), congrArg Value.bool (al_et (by omega)).symm⟩
                | exact ⟨(by repeat (first | assumption | exact Ext.refl _ | refine Ext.alloc ?_ _ | refine Ext.drew ?_ | refine Ext.setB ?_ (by first | omega | (simp only [size_alloc, size_setB, size_drew]; omega)) _ | refine Ext.trans ?_ (by assumption))), congrArg Value.bool (al_ef (by omega)).symm⟩
                | exact ⟨(by repeat (first | assumption | exact Ext.refl _ | refine Ext.alloc ?_ _ | refine Ext.drew ?_ | refine Ext.setB ?_ (by first | omega | (simp only [size_alloc, size_setB, size_drew]; omega)) _ | refine Ext.trans ?_ (by assumption))), congrArg Value.bool (by unfold writesW; rw [← al_dn]; exact al_dd.2 (by omega))⟩

set_option maxRecDepth 10000 in
theorem past_ex [Om] (C : Nat) (c : Array Value) (v : V) (B : VB) (m : Mc) (W X : List Int) (w : World) (hM : MS w C c v B m) (hW : Wd W) (hX : Wd X) (hrl : m.ret.2.1 ≤ 1000000) : Ret Hvac.prog 240 #[.pointer (some ⟨C, 0, none⟩), .agg (ic .u64 W), .agg (ic .u64 X)] w fun u w' => Ext w w' ∧ u = .bool (decide ((m.ret.2.1 : Int) < wv W + wv X)) := by
  have hblk := hM.vs.blk
  have hCl := hblk.lt
  have hcs := hM.sz
  have hc_ret := hM.rep.ret
  have hWl := hW.1
  have hXl := hX.1
  have hwb := wv_bd hW
  have hxb := wv_bd hX
  have hso : Wd (ofV ((wv W + wv X) % 115792089237316195423570985008687907853269984665640564039457584007913129639936)) := ofV_wd _
  have hsl := hso.1
  have hsv : wv (ofV ((wv W + wv X) % 115792089237316195423570985008687907853269984665640564039457584007913129639936)) = (wv W + wv X) % 115792089237316195423570985008687907853269984665640564039457584007913129639936 := wv_ofV (by omega) (by omega)
  refine Ret_of_W Hvac.func240 rfl rfl ?_
  refine W_seq ?_
  refine W_region rfl ?_
  refine WO_boxG (.agg _) rfl ?_
  intro b4 v4 hg4 hE4 hH4 hl4
  try simp only [size_alloc, size_setB, size_drew] at hg4
  have hzz4 := hE4.1
  try simp only [size_alloc, size_setB, size_drew] at hzz4
  refine WO_boxG (.agg _) rfl ?_
  intro b5 v5 hg5 hE5 hH5 hl5
  try simp only [size_alloc, size_setB, size_drew] at hg5
  have hzz5 := hE5.1
  try simp only [size_alloc, size_setB, size_drew] at hzz5
  refine WO_p (PS_assign_bool rfl) ?_
  refine WO_nil ?_
  refine thn_normal ?_
  refine W_seq ?_
  refine W_region rfl ?_
  refine WO_loadA _ Hvac.isAgg61 Hvac.sizeOf61 rfl (Hb.h (by repeat (first | assumption | exact Hb.newY _ _ | refine Hb.alloc ?_ | refine Hb.drew ?_ | refine Hb.ext (by assumption) ?_ | exact Hb.setSameL (by first | omega | (simp only [size_alloc, size_setB, size_drew]; omega)) | exact Hb.setSame (by assumption) | refine Hb.set (by first | omega | (simp only [size_alloc, size_setB, size_drew]; omega)) ?_ ))) (by first | omega | assumption | rfl | decide | exact Nat.le_refl _ | (simp only [size_ic, Value.cells]; omega) | (simp; omega) | simp) (Xt.h (by first | assumption | exact Xt.whole rfl rfl | exact Xt.whole rfl (by assumption) | exact Xt.whole rfl (by simp only [size_ic, Value.cells]; omega) | exact ⟨rfl⟩)) ?_
  refine WO_loadA _ Hvac.isAgg61 Hvac.sizeOf61 rfl (Hb.h (by repeat (first | assumption | exact Hb.newY _ _ | refine Hb.alloc ?_ | refine Hb.drew ?_ | refine Hb.ext (by assumption) ?_ | exact Hb.setSameL (by first | omega | (simp only [size_alloc, size_setB, size_drew]; omega)) | exact Hb.setSame (by assumption) | refine Hb.set (by first | omega | (simp only [size_alloc, size_setB, size_drew]; omega)) ?_ ))) (by first | omega | assumption | rfl | decide | exact Nat.le_refl _ | (simp only [size_ic, Value.cells]; omega) | (simp; omega) | simp) (Xt.h (by first | assumption | exact Xt.whole rfl rfl | exact Xt.whole rfl (by assumption) | exact Xt.whole rfl (by simp only [size_ic, Value.cells]; omega) | exact ⟨rfl⟩)) ?_
  refine WO_call Hvac.call137 (by rfl) (Ret.mono (addOver_spec _ _ _ (by first | assumption | exact argW_wd hM.ty _ _ | exact Wd0) (by first | assumption | exact argW_wd hM.ty _ _ | exact Wd0)) ?_)
  rintro _ w137_0 ⟨rfl, hE137_0⟩
  have hz137_0 := hE137_0.1
  try simp only [size_alloc, size_setB, size_drew] at hz137_0
  refine WO_p (PS_move_tuple rfl) ?_
  refine WO_p (PS_extract_agg rfl rfl) ?_
  refine WO_p (PS_extract_bool rfl rfl) ?_
  refine WO_allocG Hvac.zeroValue61 ?_
  intro b7 v7 hg7 hE7 hH7 hl7
  try simp only [size_alloc, size_setB, size_drew] at hg7
  have hzz7 := hE7.1
  try simp only [size_alloc, size_setB, size_drew] at hzz7
  first | refine WO_storeW Hvac.sizeOf61 rfl (v := .agg _) rfl (Hb.h (by repeat (first | assumption | exact Hb.newY _ _ | refine Hb.alloc ?_ | refine Hb.drew ?_ | refine Hb.ext (by assumption) ?_ | exact Hb.setSameL (by first | omega | (simp only [size_alloc, size_setB, size_drew]; omega)) | exact Hb.setSame (by assumption) | refine Hb.set (by first | omega | (simp only [size_alloc, size_setB, size_drew]; omega)) ?_ ))) rfl (by first | omega | assumption | rfl | decide | exact Nat.le_refl _ | (simp only [size_ic, Value.cells]; omega) | (simp; omega) | simp) (by first | omega | assumption | rfl | decide | exact Nat.le_refl _ | (simp only [size_ic, Value.cells]; omega) | (simp; omega) | simp) (by first | exact oneCell_ic | assumption | exact one_Ws2 _ | exact one_YA2 _ | exact one_YSl2 _ | exact one_YM2 _ | exact one_YT2 _ | exact one_L2 _) ?_ | refine WO_store Hvac.sizeOf61 rfl (v := .agg _) rfl (Hb.h (by repeat (first | assumption | exact Hb.newY _ _ | refine Hb.alloc ?_ | refine Hb.drew ?_ | refine Hb.ext (by assumption) ?_ | exact Hb.setSameL (by first | omega | (simp only [size_alloc, size_setB, size_drew]; omega)) | exact Hb.setSame (by assumption) | refine Hb.set (by first | omega | (simp only [size_alloc, size_setB, size_drew]; omega)) ?_ ))) (by first | omega | assumption | rfl | decide | exact Nat.le_refl _ | (simp only [size_ic, Value.cells]; omega) | (simp; omega) | simp) (by first | omega | assumption | rfl | decide | exact Nat.le_refl _ | (simp only [size_ic, Value.cells]; omega) | (simp; omega) | simp) (by first | exact oneCell_ic | assumption | exact one_Ws2 _ | exact one_YA2 _ | exact one_YSl2 _ | exact one_YM2 _ | exact one_YT2 _ | exact one_L2 _) ?_
  refine WO_p (PS_assign_bool rfl) ?_
  refine WO_nil ?_
  refine thn_normal ?_
  refine W_seq ?_
  refine W_region rfl ?_
  refine WO_loadA _ Hvac.isAgg61 Hvac.sizeOf61 rfl (Hb.h (by repeat (first | assumption | exact Hb.newY _ _ | refine Hb.alloc ?_ | refine Hb.drew ?_ | refine Hb.ext (by assumption) ?_ | exact Hb.setSameL (by first | omega | (simp only [size_alloc, size_setB, size_drew]; omega)) | exact Hb.setSame (by assumption) | refine Hb.set (by first | omega | (simp only [size_alloc, size_setB, size_drew]; omega)) ?_ ))) (by first | omega | assumption | rfl | decide | exact Nat.le_refl _ | (simp only [size_ic, Value.cells]; omega) | (simp; omega) | simp) (Xt.h (by first | assumption | exact Xt.whole rfl rfl | exact Xt.whole rfl (by assumption) | exact Xt.whole rfl (by simp only [size_ic, Value.cells]; omega) | exact ⟨rfl⟩)) ?_
  refine WO_call Hvac.call274 (by rfl) (Ret.mono (u64x_spec _ _ (by first | assumption | exact argW_wd hM.ty _ _ | exact Wd0)) ?_)
  rintro _ w274_2 ⟨hE274_2, x274_2, rfl, hx274_2, hxb274_2⟩
  have hz274_2 := hE274_2.1
  try simp only [size_alloc, size_setB, size_drew] at hz274_2
  refine WO_p (PS_move_tuple rfl) ?_
  refine WO_p (PS_extract_int rfl rfl) ?_
  refine WO_p (PS_extract_bool rfl rfl) ?_
  refine WO_p (PS_assign_int rfl) ?_
  refine WO_p (PS_assign_bool rfl) ?_
  refine WO_nil ?_
  refine thn_normal ?_
  refine W_seq ?_
  refine W_region rfl ?_
  refine WO_p (PS_move_bool rfl) ?_
  refine WO_p (PS_move_bool rfl) ?_
  refine WO_if (t := 23) rfl (fun hb5 => ?_) (fun hb5 => ?_)
  · have hb5p := hb5.h; try simp only [al_ete, al_dfn, Bool.not_eq_true', Bool.not_eq_false', al_ne, Bool.not_not, al_nn] at hb5p
    refine WO_guardF rfl rfl hb5.h ?_
    refine WO_guardF rfl rfl hb5.h ?_
    refine WO_p (PS_pickT rfl hb5.h rfl) ?_
    refine WO_p (PS_move_bool rfl) ?_
    refine WO_guardF rfl rfl rfl ?_
    refine WO_guardF rfl rfl rfl ?_
    refine WO_guardF rfl rfl rfl ?_
    refine WO_guardF rfl rfl rfl ?_
    refine WO_guardF rfl rfl rfl ?_
    refine WO_guardF rfl rfl rfl ?_
    refine WO_guardF rfl rfl rfl ?_
    refine WO_guardF rfl rfl rfl ?_
    refine WO_p (PS_pickT rfl rfl rfl) ?_
    refine WO_p (PS_assign_bool rfl) ?_
    refine WO_nil ?_
    refine thn_normal ?_
    refine W_ret ?_
    refine bodyQ_ret1 Hvac.results240 rfl (.bool _) rfl ?_
    refine ⟨(by repeat (first | assumption | exact Ext.refl _ | refine Ext.alloc ?_ _ | refine Ext.drew ?_ | refine Ext.setB ?_ (by first | omega | (simp only [size_alloc, size_setB, size_drew]; omega)) _ | refine Ext.trans ?_ (by assumption))), congrArg Value.bool ?_⟩
    simp only [hsv] at *
    first
    | exact (al_et (by omega)).symm
    | exact (al_ef (by omega)).symm
    | exact al_dd.2 (by omega)
    
  · have hb5p := hb5.h; try simp only [al_ete, al_dfn, Bool.not_eq_true', Bool.not_eq_false', al_ne, Bool.not_not, al_nn] at hb5p
    refine WO_guardT rfl rfl hb5.h ?_
    refine WO_p (PS_move_bool rfl) ?_
    refine WO_guardT rfl rfl hb5.h ?_
    refine WO_p (PS_not rfl) ?_
    refine WO_p (PS_pickF rfl hb5.h rfl) ?_
    refine WO_p (PS_move_bool rfl) ?_
    refine WO_if (t := 27) rfl (fun hb7 => ?_) (fun hb7 => ?_)
    · have hb7p := hb7.h; try simp only [al_ete, al_dfn, Bool.not_eq_true', Bool.not_eq_false', al_ne, Bool.not_not, al_nn] at hb7p
      refine WO_guardF rfl rfl hb7.h ?_
      refine WO_guardF rfl rfl hb7.h ?_
      refine WO_guardF rfl rfl hb7.h ?_
      refine WO_guardF rfl rfl hb7.h ?_
      refine WO_guardF rfl rfl hb7.h ?_
      refine WO_guardF rfl rfl hb7.h ?_
      refine WO_guardF rfl rfl hb7.h ?_
      refine WO_guardF rfl rfl hb7.h ?_
      refine WO_p (PS_pickT rfl hb7.h rfl) ?_
      refine WO_p (PS_assign_bool rfl) ?_
      refine WO_nil ?_
      refine thn_normal ?_
      refine W_ret ?_
      refine bodyQ_ret1 Hvac.results240 rfl (.bool _) rfl ?_
      refine ⟨(by repeat (first | assumption | exact Ext.refl _ | refine Ext.alloc ?_ _ | refine Ext.drew ?_ | refine Ext.setB ?_ (by first | omega | (simp only [size_alloc, size_setB, size_drew]; omega)) _ | refine Ext.trans ?_ (by assumption))), congrArg Value.bool ?_⟩
      simp only [hsv] at *
      first
      | exact (al_et (by omega)).symm
      | exact (al_ef (by omega)).symm
      | exact al_dd.2 (by omega)
      
    · have hb7p := hb7.h; try simp only [al_ete, al_dfn, Bool.not_eq_true', Bool.not_eq_false', al_ne, Bool.not_not, al_nn] at hb7p
      refine WO_guardT rfl rfl hb7.h ?_
      refine WO_p (PS_move_int rfl) ?_
      refine WO_guardT rfl rfl hb7.h ?_
      refine WO_p (PS_move_ptr rfl) ?_
      refine WO_guardT rfl rfl hb7.h ?_
      refine WO_p (PS_nilCheck rfl) ?_
      refine WO_guardT rfl rfl hb7.h ?_
      refine WO_p (PS_fieldAddr 2259 Hvac.runUnderlying70 rfl Hvac.sizeOf32 rfl rfl) ?_
      refine WO_guardT rfl rfl hb7.h ?_
      refine WO_load (.slice _ _ _) Hvac.isAgg32 rfl (Hb.h (by repeat (first | assumption | exact Hb.newY _ _ | refine Hb.alloc ?_ | refine Hb.drew ?_ | refine Hb.ext (by assumption) ?_ | exact Hb.setSameL (by first | omega | (simp only [size_alloc, size_setB, size_drew]; omega)) | exact Hb.setSame (by assumption) | refine Hb.set (by first | omega | (simp only [size_alloc, size_setB, size_drew]; omega)) ?_ ))) (Ce.h (by first | assumption | exact ⟨rfl⟩)) ?_
      refine WO_guardT rfl rfl hb7.h ?_
      refine WO_p (PS_lenS Hvac.runUnderlying32 rfl) ?_
      refine WO_guardT rfl rfl hb7.h ?_
      refine WO_p (PS_conv_u64n Hvac.runUnderlying3 Hvac.runUnderlying26 rfl (by omega) (by omega)) ?_
      refine WO_guardT rfl rfl hb7.h ?_
      refine WO_p (PS_gtr rfl rfl) ?_
      refine WO_p (PS_pickF rfl hb7.h rfl) ?_
      refine WO_p (PS_assign_bool rfl) ?_
      refine WO_nil ?_
      refine thn_normal ?_
      refine W_ret ?_
      refine bodyQ_ret1 Hvac.results240 rfl (.bool _) rfl ?_
      refine ⟨(by repeat (first | assumption | exact Ext.refl _ | refine Ext.alloc ?_ _ | refine Ext.drew ?_ | refine Ext.setB ?_ (by first | omega | (simp only [size_alloc, size_setB, size_drew]; omega)) _ | refine Ext.trans ?_ (by assumption))), congrArg Value.bool ?_⟩
      simp only [hsv] at *
      first
      | exact (al_et (by omega)).symm
      | exact (al_ef (by omega)).symm
      | exact al_dd.2 (by omega)
      

set_option maxRecDepth 10000 in
theorem warmAcct_ex [Om] (C : Nat) (c : Array Value) (v : V) (B : VB) (m : Mc) (A : List Int) (w : World) (hM : MS w C c v B m) (hA : By A 20) : Ret Hvac.prog 268 #[.pointer (some ⟨C, 0, none⟩), .agg (ic .u8 A)] w fun u w' => u = .bool (v.warmT A).1 ∧ MRet w C B m w' (v.warmT A).2 m ∧ KT 5 w w' ∧ KT 28 w w' := by
  have hblk := hM.vs.blk
  have hCl := hblk.lt
  have hcs := hM.sz
  have hc_s := hM.rep.s
  have hAl := hA.1
  refine Ret_of_W Hvac.func268 rfl rfl ?_
  refine W_seq ?_
  refine W_region rfl ?_
  refine WO_boxG (.agg _) rfl ?_
  intro b3 v3 hg3 hE3 hH3 hl3
  try simp only [size_alloc, size_setB, size_drew] at hg3
  have hzz3 := hE3.1
  try simp only [size_alloc, size_setB, size_drew] at hzz3
  refine WO_p (PS_assign_bool rfl) ?_
  refine WO_nil ?_
  refine thn_normal ?_
  refine W_seq ?_
  refine W_drawE [false, false, false, false, false, true, false, false, false, false, false, false, false, false, false] hmix (by kernel_rfl) rfl ?_
  refine WH_p (PS_move_ptr rfl) rfl ?_
  refine WH_p (PS_nilCheck rfl) rfl ?_
  refine WH_p (PS_fieldAddr 0 Hvac.runUnderlying70 rfl Hvac.sizeOf55 rfl rfl) rfl ?_
  refine WH_load (.pointer _) Hvac.isAgg55 rfl (Hb.h (by repeat (first | assumption | exact Hb.newY _ _ | refine Hb.alloc ?_ | refine Hb.drew ?_ | refine Hb.ext (by assumption) ?_ | exact Hb.setSameL (by first | omega | (simp only [size_alloc, size_setB, size_drew]; omega)) | exact Hb.setSame (by assumption) | refine Hb.set (by first | omega | (simp only [size_alloc, size_setB, size_drew]; omega)) ?_ ))) (Ce.h (by first | assumption | exact ⟨rfl⟩)) ?_
  refine WH_loadA _ Hvac.isAgg25 Hvac.sizeOf25 rfl (Hb.h (by repeat (first | assumption | exact Hb.newY _ _ | refine Hb.alloc ?_ | refine Hb.drew ?_ | refine Hb.ext (by assumption) ?_ | exact Hb.setSameL (by first | omega | (simp only [size_alloc, size_setB, size_drew]; omega)) | exact Hb.setSame (by assumption) | refine Hb.set (by first | omega | (simp only [size_alloc, size_setB, size_drew]; omega)) ?_ ))) (by first | omega | assumption | rfl | decide | exact Nat.le_refl _ | (simp only [size_ic, Value.cells]; omega) | (simp; omega) | simp) (Xt.h (by first | assumption | exact Xt.whole rfl rfl | exact Xt.whole rfl (by assumption) | exact Xt.whole rfl (by simp only [size_ic, Value.cells]; omega) | exact ⟨rfl⟩)) ?_
  refine WH_call Hvac.call148 (by rfl) (Ret.mono (isWarmA_spec C c v B (bb m) _ _ (VS.ext hM.vs (by repeat (first | assumption | exact Ext.refl _ | refine Ext.alloc ?_ _ | refine Ext.drew ?_ | refine Ext.setB ?_ (by first | omega | (simp only [size_alloc, size_setB, size_drew]; omega)) _ | exact Ext.trans (by assumption) (by assumption) | refine Ext.trans ?_ (by assumption)))) (by first | assumption | exact addrW_by _)) ?_)
  rintro _ w148_0 ⟨rfl, hE148_0⟩
  refine ⟨fun _ => (by repeat (first | assumption | exact Ext.refl _ | refine Ext.alloc ?_ _ | refine Ext.drew ?_ | refine Ext.setB ?_ (by first | omega | (simp only [size_alloc, size_setB, size_drew]; omega)) _ | exact Ext.trans (by assumption) (by assumption) | refine Ext.trans ?_ (by assumption))), ?_⟩
  have hz148_0 := hE148_0.1
  try simp only [size_alloc, size_setB, size_drew] at hz148_0
  refine WH_p (PS_move_bool rfl) rfl ?_
  refine WH_if (t := 11) rfl (fun hb3 => ?_) (fun hb3 => ?_)
  · have hb3p := hb3.h; try simp only [al_ete, al_dfn, Bool.not_eq_true', Bool.not_eq_false', al_ne, Bool.not_not, al_nn] at hb3p
    have hwt : v.warmT A = (true, v) := by unfold V.warmT; rw [if_pos hb3p]
    refine WH_guardF rfl rfl hb3.h ?_
    refine WH_guardF rfl rfl hb3.h ?_
    refine WH_guardF rfl rfl hb3.h ?_
    refine WH_guardF rfl rfl hb3.h ?_
    refine WH_guardF rfl rfl hb3.h ?_
    refine WH_guardF rfl rfl hb3.h ?_
    refine WH_p (PS_pickT rfl hb3.h rfl) rfl ?_
    refine WH_p (PS_assign_bool rfl) rfl ?_
    refine WH_nil ?_
    refine thn_normal ?_
    refine W_ret ?_
    refine bodyQ_ret1 Hvac.results268 rfl (.bool _) rfl ?_
    first
    | exact ⟨by rw [hwt], by rw [hwt]; exact MRet.of_ms hM (by repeat (first | assumption | exact Ext.refl _ | refine Ext.alloc ?_ _ | refine Ext.drew ?_ | refine Ext.setB ?_ (by first | omega | (simp only [size_alloc, size_setB, size_drew]; omega)) _ | refine Ext.trans ?_ (by assumption))), KT.ext (by repeat (first | assumption | exact Ext.refl _ | refine Ext.alloc ?_ _ | refine Ext.drew ?_ | refine Ext.setB ?_ (by first | omega | (simp only [size_alloc, size_setB, size_drew]; omega)) _ | refine Ext.trans ?_ (by assumption))), KT.ext (by repeat (first | assumption | exact Ext.refl _ | refine Ext.alloc ?_ _ | refine Ext.drew ?_ | refine Ext.setB ?_ (by first | omega | (simp only [size_alloc, size_setB, size_drew]; omega)) _ | refine Ext.trans ?_ (by assumption)))⟩
    | exact ⟨by rw [hwt], by rw [hwt]; exact hM2, (KT.ext hEb).trans hK2.1, (KT.ext hEb).trans hK2.2⟩
  · have hb3p := hb3.h; try simp only [al_ete, al_dfn, Bool.not_eq_true', Bool.not_eq_false', al_ne, Bool.not_not, al_nn] at hb3p
    have hwt : v.warmT A = v.warmA A := by unfold V.warmT; rw [if_neg (by simp [hb3p])]
    have hEb : Ext w w148_0 := (by repeat (first | assumption | exact Ext.refl _ | refine Ext.alloc ?_ _ | refine Ext.drew ?_ | refine Ext.setB ?_ (by first | omega | (simp only [size_alloc, size_setB, size_drew]; omega)) _ | exact Ext.trans (by assumption) (by assumption) | refine Ext.trans ?_ (by assumption)))
    refine WH_guardT rfl rfl hb3.h ?_
    refine WH_p (PS_move_ptr rfl) rfl ?_
    refine WH_guardT rfl rfl hb3.h ?_
    refine WH_p (PS_nilCheck rfl) rfl ?_
    refine WH_guardT rfl rfl hb3.h ?_
    refine WH_p (PS_fieldAddr 0 Hvac.runUnderlying70 rfl Hvac.sizeOf55 rfl rfl) rfl ?_
    refine WH_guardT rfl rfl hb3.h ?_
    refine WH_load (.pointer _) Hvac.isAgg55 rfl (Hb.h (by repeat (first | assumption | exact Hb.newY _ _ | refine Hb.alloc ?_ | refine Hb.drew ?_ | refine Hb.ext (by assumption) ?_ | exact Hb.setSameL (by first | omega | (simp only [size_alloc, size_setB, size_drew]; omega)) | exact Hb.setSame (by assumption) | refine Hb.set (by first | omega | (simp only [size_alloc, size_setB, size_drew]; omega)) ?_ ))) (Ce.h (by first | assumption | exact ⟨rfl⟩)) ?_
    refine WH_guardT rfl rfl hb3.h ?_
    refine WH_loadA _ Hvac.isAgg25 Hvac.sizeOf25 rfl (Hb.h (by repeat (first | assumption | exact Hb.newY _ _ | refine Hb.alloc ?_ | refine Hb.drew ?_ | refine Hb.ext (by assumption) ?_ | exact Hb.setSameL (by first | omega | (simp only [size_alloc, size_setB, size_drew]; omega)) | exact Hb.setSame (by assumption) | refine Hb.set (by first | omega | (simp only [size_alloc, size_setB, size_drew]; omega)) ?_ ))) (by first | omega | assumption | rfl | decide | exact Nat.le_refl _ | (simp only [size_ic, Value.cells]; omega) | (simp; omega) | simp) (Xt.h (by first | assumption | exact Xt.whole rfl rfl | exact Xt.whole rfl (by assumption) | exact Xt.whole rfl (by simp only [size_ic, Value.cells]; omega) | exact ⟨rfl⟩)) ?_
    refine WH_guardT rfl rfl hb3.h ?_
    refine WH_call Hvac.call149 (by rfl) (Ret.mono (warmA_spec C c v B (bb m) A _ (VS.ext hM.vs (by repeat (first | assumption | exact Ext.refl _ | refine Ext.alloc ?_ _ | refine Ext.drew ?_ | refine Ext.setB ?_ (by first | omega | (simp only [size_alloc, size_setB, size_drew]; omega)) _ | exact Ext.trans (by assumption) (by assumption) | refine Ext.trans ?_ (by assumption)))) hA) ?_)
    rintro _ w2 ⟨rfl, hR2⟩
    refine ⟨(fun h => by cases h), ?_⟩
    have hE2 : Ext w _ := hEb
    have hM2 := MRet.pre hEb ((MS.ext hM hEb).vret hR2)
    have hK2 := VRet.kts (MS.ext hM hEb).vs hR2
    refine WH_p (PS_pickF rfl hb3.h rfl) rfl ?_
    refine WH_p (PS_assign_bool rfl) rfl ?_
    refine WH_nil ?_
    refine thn_normal ?_
    refine W_ret ?_
    refine bodyQ_ret1 Hvac.results268 rfl (.bool _) rfl ?_
    first
    | exact ⟨by rw [hwt], by rw [hwt]; exact MRet.of_ms hM (by repeat (first | assumption | exact Ext.refl _ | refine Ext.alloc ?_ _ | refine Ext.drew ?_ | refine Ext.setB ?_ (by first | omega | (simp only [size_alloc, size_setB, size_drew]; omega)) _ | refine Ext.trans ?_ (by assumption))), KT.ext (by repeat (first | assumption | exact Ext.refl _ | refine Ext.alloc ?_ _ | refine Ext.drew ?_ | refine Ext.setB ?_ (by first | omega | (simp only [size_alloc, size_setB, size_drew]; omega)) _ | refine Ext.trans ?_ (by assumption))), KT.ext (by repeat (first | assumption | exact Ext.refl _ | refine Ext.alloc ?_ _ | refine Ext.drew ?_ | refine Ext.setB ?_ (by first | omega | (simp only [size_alloc, size_setB, size_drew]; omega)) _ | refine Ext.trans ?_ (by assumption)))⟩
    | exact ⟨by rw [hwt], by rw [hwt]; exact hM2, (KT.ext hEb).trans hK2.1, (KT.ext hEb).trans hK2.2⟩

set_option maxRecDepth 10000 in
theorem read_ex [Om] (C : Nat) (c : Array Value) (v : V) (B : VB) (m : Mc) (k lo n : Nat) (W X : List Int) (w : World) (hM : MS w C c v B m) (L : List Int) (hBX : BufX w m.buf L) (hT : MemT m k lo n) (hW : Wd W) (hX : Wd X) (hr : wv X = 0 ∨ wv W + wv X ≤ n) : Ret Hvac.prog 266 #[.pointer (some ⟨C, 0, none⟩), .agg (ic .u64 W), .agg (ic .u64 X)] w fun u w' => Ext w w' ∧ ∃ s', u = .tuple #[.slice s'.1 s'.2.1 s'.2.2, .bool true] ∧ NewB w w' s' (ycut ((L.drop lo).take n) (wn W) (wn X)) ∧ By8 (ycut ((L.drop lo).take n) (wn W) (wn X)) := by
  have hblk := hM.vs.blk
  have hCl := hblk.lt
  have hcs := hM.sz
  have hWl := hW.1
  have hXl := hX.1
  have hwb := wv_bd hW
  have hxb := wv_bd hX
  have h1 := hT.le
  have h2 := hT.sz
  have hwi := wn_int hW
  have hxi := wn_int hX
  refine Ret_of_W Hvac.func266 rfl rfl ?_
  refine W_seq ?_
  refine W_region rfl ?_
  refine WO_boxG (.agg _) rfl ?_
  intro b4 v4 hg4 hE4 hH4 hl4
  try simp only [size_alloc, size_setB, size_drew] at hg4
  have hzz4 := hE4.1
  try simp only [size_alloc, size_setB, size_drew] at hzz4
  refine WO_boxG (.agg _) rfl ?_
  intro b5 v5 hg5 hE5 hH5 hl5
  try simp only [size_alloc, size_setB, size_drew] at hg5
  have hzz5 := hE5.1
  try simp only [size_alloc, size_setB, size_drew] at hzz5
  refine WO_p (PS_assign_slice rfl) ?_
  refine WO_p (PS_assign_bool rfl) ?_
  refine WO_nil ?_
  refine thn_normal ?_
  refine W_seq ?_
  refine W_seq ?_
  refine W_region rfl ?_
  refine WO_loadA _ Hvac.isAgg61 Hvac.sizeOf61 rfl (Hb.h (by repeat (first | assumption | exact Hb.newY _ _ | refine Hb.alloc ?_ | refine Hb.drew ?_ | refine Hb.ext (by assumption) ?_ | exact Hb.setSameL (by first | omega | (simp only [size_alloc, size_setB, size_drew]; omega)) | exact Hb.setSame (by assumption) | refine Hb.set (by first | omega | (simp only [size_alloc, size_setB, size_drew]; omega)) ?_ ))) (by first | omega | assumption | rfl | decide | exact Nat.le_refl _ | (simp only [size_ic, Value.cells]; omega) | (simp; omega) | simp) (Xt.h (by first | assumption | exact Xt.whole rfl rfl | exact Xt.whole rfl (by assumption) | exact Xt.whole rfl (by simp only [size_ic, Value.cells]; omega) | exact ⟨rfl⟩)) ?_
  refine WO_call Hvac.call223 (by rfl) (Ret.mono (isz_spec _ _ (by first | assumption | exact argW_wd hM.ty _ _ | exact Wd0)) ?_)
  rintro _ w223_0 ⟨rfl, hE223_0⟩
  have hz223_0 := hE223_0.1
  try simp only [size_alloc, size_setB, size_drew] at hz223_0
  refine WO_nil ?_
  refine thn_normal ?_
  refine W_if rfl (fun hb2 => ?_) (fun hb2 => ?_)
  · have hb2p := hb2.h; try simp only [al_ete, al_dfn, Bool.not_eq_true', Bool.not_eq_false', al_ne, Bool.not_not, al_nn] at hb2p
    have hx0 : wn X = 0 := by omega
    refine W_seq ?_
    refine W_region rfl ?_
    refine WO_p (PS_assign_slice rfl) ?_
    refine WO_p (PS_assign_bool rfl) ?_
    refine WO_nil ?_
    refine thn_normal ?_
    refine W_ret ?_
    refine thn_ret ?_
    refine bodyQ_ret2 Hvac.results266 rfl rfl (.slice _ _ _) (.bool _) rfl rfl ?_
    first
    | (rw [hx0]; exact ⟨(by repeat (first | assumption | exact Ext.refl _ | refine Ext.alloc ?_ _ | refine Ext.drew ?_ | refine Ext.setB ?_ (by first | omega | (simp only [size_alloc, size_setB, size_drew]; omega)) _ | refine Ext.trans ?_ (by assumption))), (none, 0, 0), rfl, Or.inl ⟨rfl, rfl⟩, by intro x hx; cases hx⟩)
    | (refine ⟨(by repeat (first | assumption | exact Ext.refl _ | refine Ext.alloc ?_ _ | refine Ext.drew ?_ | refine Ext.setB ?_ (by first | omega | (simp only [size_alloc, size_setB, size_drew]; omega)) _ | refine Ext.trans ?_ (by assumption))), s3, ?_, hN3w, ?_⟩
       · congr 4
         obtain ⟨p3, n3, c3⟩ := s3
         cases p3 with
         | none => exact absurd rfl hns
         | some _ => rfl
       · rw [← cut_mem (by omega) (by omega)]; exact fun x hx => hLb x (List.mem_of_mem_drop (List.mem_of_mem_take hx)))
  · have hb2p := hb2.h; try simp only [al_ete, al_dfn, Bool.not_eq_true', Bool.not_eq_false', al_ne, Bool.not_not, al_nn] at hb2p
    obtain ⟨bq, Lq, hbq, _⟩ := hM.buf.some (by omega)
    have hLl := (hBX.hb hbq).2.2.2
    have hLb := (hBX.hb hbq).2.2.1
    have hs1 : smallW W = ((wv W).toNat : Int) := by unfold smallW; rw [if_pos (by omega)]; omega
    have hs2 : smallW X = ((wv X).toNat : Int) := by unfold smallW; rw [if_pos (by omega)]; omega
    refine W_skip ?_
    refine thn_normal ?_
    refine W_seq ?_
    refine W_drawE [false, false, false, false, true, false, false, false, false] hmix (by kernel_rfl) rfl ?_
    refine WH_p (PS_move_ptr rfl) rfl ?_
    refine WH_p (PS_nilCheck rfl) rfl ?_
    refine WH_p (PS_fieldAddr 1 Hvac.runUnderlying70 rfl Hvac.sizeOf59 rfl rfl) rfl ?_
    refine WH_loadA _ Hvac.isAgg61 Hvac.sizeOf61 rfl (Hb.h (by repeat (first | assumption | exact Hb.newY _ _ | refine Hb.alloc ?_ | refine Hb.drew ?_ | refine Hb.ext (by assumption) ?_ | exact Hb.setSameL (by first | omega | (simp only [size_alloc, size_setB, size_drew]; omega)) | exact Hb.setSame (by assumption) | refine Hb.set (by first | omega | (simp only [size_alloc, size_setB, size_drew]; omega)) ?_ ))) (by first | omega | assumption | rfl | decide | exact Nat.le_refl _ | (simp only [size_ic, Value.cells]; omega) | (simp; omega) | simp) (Xt.h (by first | assumption | exact Xt.whole rfl rfl | exact Xt.whole rfl (by assumption) | exact Xt.whole rfl (by simp only [size_ic, Value.cells]; omega) | exact ⟨rfl⟩)) ?_
    refine WH_call Hvac.call273 (by rfl) (Ret.mono (small_spec _ _ (by assumption)) ?_)
    rintro _ w273_2 ⟨hE273_2, rfl⟩
    refine ⟨fun _ => (by repeat (first | assumption | exact Ext.refl _ | refine Ext.alloc ?_ _ | refine Ext.drew ?_ | refine Ext.setB ?_ (by first | omega | (simp only [size_alloc, size_setB, size_drew]; omega)) _ | exact Ext.trans (by assumption) (by assumption) | refine Ext.trans ?_ (by assumption))), ?_⟩
    have hz273_2 := hE273_2.1
    try simp only [size_alloc, size_setB, size_drew] at hz273_2
    first | rw [hs1] | rw [hs2]
    refine WH_loadA _ Hvac.isAgg61 Hvac.sizeOf61 rfl (Hb.h (by repeat (first | assumption | exact Hb.newY _ _ | refine Hb.alloc ?_ | refine Hb.drew ?_ | refine Hb.ext (by assumption) ?_ | exact Hb.setSameL (by first | omega | (simp only [size_alloc, size_setB, size_drew]; omega)) | exact Hb.setSame (by assumption) | refine Hb.set (by first | omega | (simp only [size_alloc, size_setB, size_drew]; omega)) ?_ ))) (by first | omega | assumption | rfl | decide | exact Nat.le_refl _ | (simp only [size_ic, Value.cells]; omega) | (simp; omega) | simp) (Xt.h (by first | assumption | exact Xt.whole rfl rfl | exact Xt.whole rfl (by assumption) | exact Xt.whole rfl (by simp only [size_ic, Value.cells]; omega) | exact ⟨rfl⟩)) ?_
    refine WH_call Hvac.call273 (by rfl) (Ret.mono (small_spec _ _ (by assumption)) ?_)
    rintro _ w273_3 ⟨hE273_3, rfl⟩
    refine ⟨(fun h => by cases h), ?_⟩
    have hz273_3 := hE273_3.1
    try simp only [size_alloc, size_setB, size_drew] at hz273_3
    first | rw [hs1] | rw [hs2]
    refine WH_call Hvac.call98 (by rfl) (Ret.mono (memRead_ex C c v B m k lo n (wv W).toNat (wv X).toNat bq _ (MS.ext hM (by repeat (first | assumption | exact Ext.refl _ | refine Ext.alloc ?_ _ | refine Ext.drew ?_ | refine Ext.setB ?_ (by first | omega | (simp only [size_alloc, size_setB, size_drew]; omega)) _ | exact Ext.trans (by assumption) (by assumption) | refine Ext.trans ?_ (by assumption)))) L (BufX.ext hBX (by repeat (first | assumption | exact Ext.refl _ | refine Ext.alloc ?_ _ | refine Ext.drew ?_ | refine Ext.setB ?_ (by first | omega | (simp only [size_alloc, size_setB, size_drew]; omega)) _ | exact Ext.trans (by assumption) (by assumption) | refine Ext.trans ?_ (by assumption)))) hT hbq (by omega) (by omega)) ?_)
    rintro _ w3 ⟨hE3, s3, rfl, hN3⟩
    refine ⟨(fun h => by cases h), ?_⟩
    rw [show (wv W).toNat = wn W from rfl, show (wv X).toNat = wn X from rfl, cut_mem (n := n) (by omega) (by omega)] at hN3
    have hN3w := hN3.mono (w0 := w) (by (try simp only [size_alloc, size_setB, size_drew]); omega)
    have hns : s3.1 ≠ none := by
      rcases hN3 with ⟨e, _⟩ | ⟨_, bb3, e, _⟩
      · have := congrArg List.length e; simp [ycut] at this; omega
      · rw [e]; simp
    refine WH_p (PS_assign_slice rfl) rfl ?_
    refine WH_nil ?_
    refine thn_normal ?_
    refine W_seq ?_
    refine W_region rfl ?_
    refine WO_p (PS_move_slice rfl) ?_
    refine WO_p (PS_move_slice rfl) ?_
    refine WO_p (PS_neqslnil Hvac.underlying32 rfl) ?_
    refine WO_p (PS_assign_slice rfl) ?_
    refine WO_p (PS_assign_bool rfl) ?_
    refine WO_nil ?_
    refine thn_normal ?_
    refine W_ret ?_
    refine bodyQ_ret2 Hvac.results266 rfl rfl (.slice _ _ _) (.bool _) rfl rfl ?_
    first
    | (rw [hx0]; exact ⟨(by repeat (first | assumption | exact Ext.refl _ | refine Ext.alloc ?_ _ | refine Ext.drew ?_ | refine Ext.setB ?_ (by first | omega | (simp only [size_alloc, size_setB, size_drew]; omega)) _ | refine Ext.trans ?_ (by assumption))), (none, 0, 0), rfl, Or.inl ⟨rfl, rfl⟩, by intro x hx; cases hx⟩)
    | (refine ⟨(by repeat (first | assumption | exact Ext.refl _ | refine Ext.alloc ?_ _ | refine Ext.drew ?_ | refine Ext.setB ?_ (by first | omega | (simp only [size_alloc, size_setB, size_drew]; omega)) _ | refine Ext.trans ?_ (by assumption))), s3, ?_, hN3w, ?_⟩
       · congr 4
         obtain ⟨p3, n3, c3⟩ := s3
         cases p3 with
         | none => exact absurd rfl hns
         | some _ => rfl
       · rw [← cut_mem (by omega) (by omega)]; exact fun x hx => hLb x (List.mem_of_mem_drop (List.mem_of_mem_take hx)))

set_option maxRecDepth 10000 in
theorem taken_ex [Om] (C : Nat) (c : Array Value) (v : V) (B : VB) (m : Mc) (A : List Int) (w : World) (hM : MS w C c v B m) (hI : VInv v) (hA : By A 20) : Ret Hvac.prog 74 #[.pointer (some ⟨C, 0, none⟩), .agg (ic .u8 A)] w fun u w' => Ext w w' ∧ u = .bool (takenW v A) := by
  have hblk := hM.vs.blk
  have hCl := hblk.lt
  have hcs := hM.sz
  have hc_s := hM.rep.s
  have hAl := hA.1
  have hcl := code_len hI
  refine Ret_of_W Hvac.func74 rfl rfl ?_
  refine W_seq ?_
  refine W_region rfl ?_
  refine WO_boxG (.agg _) rfl ?_
  intro b3 v3 hg3 hE3 hH3 hl3
  try simp only [size_alloc, size_setB, size_drew] at hg3
  have hzz3 := hE3.1
  try simp only [size_alloc, size_setB, size_drew] at hzz3
  refine WO_p (PS_assign_bool rfl) ?_
  refine WO_nil ?_
  refine thn_normal ?_
  refine W_seq ?_
  refine W_drawE [false, false, false, false, false, true, false, false, false, false, false, false, false, false, false, false, false, false] hmix (by kernel_rfl) rfl ?_
  refine WH_p (PS_move_ptr rfl) rfl ?_
  refine WH_p (PS_nilCheck rfl) rfl ?_
  refine WH_p (PS_fieldAddr 0 Hvac.runUnderlying70 rfl Hvac.sizeOf55 rfl rfl) rfl ?_
  refine WH_load (.pointer _) Hvac.isAgg55 rfl (Hb.h (by repeat (first | assumption | exact Hb.newY _ _ | refine Hb.alloc ?_ | refine Hb.drew ?_ | refine Hb.ext (by assumption) ?_ | exact Hb.setSameL (by first | omega | (simp only [size_alloc, size_setB, size_drew]; omega)) | exact Hb.setSame (by assumption) | refine Hb.set (by first | omega | (simp only [size_alloc, size_setB, size_drew]; omega)) ?_ ))) (Ce.h (by first | assumption | exact ⟨rfl⟩)) ?_
  refine WH_loadA _ Hvac.isAgg25 Hvac.sizeOf25 rfl (Hb.h (by repeat (first | assumption | exact Hb.newY _ _ | refine Hb.alloc ?_ | refine Hb.drew ?_ | refine Hb.ext (by assumption) ?_ | exact Hb.setSameL (by first | omega | (simp only [size_alloc, size_setB, size_drew]; omega)) | exact Hb.setSame (by assumption) | refine Hb.set (by first | omega | (simp only [size_alloc, size_setB, size_drew]; omega)) ?_ ))) (by first | omega | assumption | rfl | decide | exact Nat.le_refl _ | (simp only [size_ic, Value.cells]; omega) | (simp; omega) | simp) (Xt.h (by first | assumption | exact Xt.whole rfl rfl | exact Xt.whole rfl (by assumption) | exact Xt.whole rfl (by simp only [size_ic, Value.cells]; omega) | exact ⟨rfl⟩)) ?_
  refine WH_call Hvac.call134 (by rfl) (Ret.mono (nonce_spec C c v B (bb m) _ _ (VS.ext hM.vs (by repeat (first | assumption | exact Ext.refl _ | refine Ext.alloc ?_ _ | refine Ext.drew ?_ | refine Ext.setB ?_ (by first | omega | (simp only [size_alloc, size_setB, size_drew]; omega)) _ | exact Ext.trans (by assumption) (by assumption) | refine Ext.trans ?_ (by assumption)))) (by first | assumption | exact addrW_by _)) ?_)
  rintro _ w134_0 ⟨rfl, hE134_0⟩
  refine ⟨fun _ => (by repeat (first | assumption | exact Ext.refl _ | refine Ext.alloc ?_ _ | refine Ext.drew ?_ | refine Ext.setB ?_ (by first | omega | (simp only [size_alloc, size_setB, size_drew]; omega)) _ | exact Ext.trans (by assumption) (by assumption) | refine Ext.trans ?_ (by assumption))), ?_⟩
  have hz134_0 := hE134_0.1
  try simp only [size_alloc, size_setB, size_drew] at hz134_0
  refine WH_p (PS_gtr rfl rfl) rfl ?_
  refine WH_p (PS_move_bool rfl) rfl ?_
  refine WH_if (t := 12) rfl (fun hb3 => ?_) (fun hb3 => ?_)
  · have hb3p := hb3.h; try simp only [al_ete, al_dfn, Bool.not_eq_true', Bool.not_eq_false', al_ne, Bool.not_not, al_nn] at hb3p
    refine WH_guardF rfl rfl hb3.h ?_
    refine WH_guardF rfl rfl hb3.h ?_
    refine WH_guardF rfl rfl hb3.h ?_
    refine WH_guardF rfl rfl hb3.h ?_
    refine WH_guardF rfl rfl hb3.h ?_
    refine WH_guardF rfl rfl hb3.h ?_
    refine WH_guardF rfl rfl hb3.h ?_
    refine WH_guardF rfl rfl hb3.h ?_
    refine WH_p (PS_pickT rfl hb3.h rfl) rfl ?_
    refine WH_p (PS_assign_bool rfl) rfl ?_
    refine WH_nil ?_
    refine thn_normal ?_
    refine W_ret ?_
    refine bodyQ_ret1 Hvac.results74 rfl (.bool _) rfl ?_
    first
    | exact ⟨(by repeat (first | assumption | exact Ext.refl _ | refine Ext.alloc ?_ _ | refine Ext.drew ?_ | refine Ext.setB ?_ (by first | omega | (simp only [size_alloc, size_setB, size_drew]; omega)) _ | refine Ext.trans ?_ (by assumption))), congrArg Value.bool (al_et (by omega)).symm⟩
    | exact ⟨(by repeat (first | assumption | exact Ext.refl _ | refine Ext.alloc ?_ _ | refine Ext.drew ?_ | refine Ext.setB ?_ (by first | omega | (simp only [size_alloc, size_setB, size_drew]; omega)) _ | refine Ext.trans ?_ (by assumption))), congrArg Value.bool (by unfold takenW; exact al_dd.2 (by omega))⟩
  · have hb3p := hb3.h; try simp only [al_ete, al_dfn, Bool.not_eq_true', Bool.not_eq_false', al_ne, Bool.not_not, al_nn] at hb3p
    refine WH_guardT rfl rfl hb3.h ?_
    refine WH_p (PS_move_ptr rfl) rfl ?_
    refine WH_guardT rfl rfl hb3.h ?_
    refine WH_p (PS_nilCheck rfl) rfl ?_
    refine WH_guardT rfl rfl hb3.h ?_
    refine WH_p (PS_fieldAddr 0 Hvac.runUnderlying70 rfl Hvac.sizeOf55 rfl rfl) rfl ?_
    refine WH_guardT rfl rfl hb3.h ?_
    refine WH_load (.pointer _) Hvac.isAgg55 rfl (Hb.h (by repeat (first | assumption | exact Hb.newY _ _ | refine Hb.alloc ?_ | refine Hb.drew ?_ | refine Hb.ext (by assumption) ?_ | exact Hb.setSameL (by first | omega | (simp only [size_alloc, size_setB, size_drew]; omega)) | exact Hb.setSame (by assumption) | refine Hb.set (by first | omega | (simp only [size_alloc, size_setB, size_drew]; omega)) ?_ ))) (Ce.h (by first | assumption | exact ⟨rfl⟩)) ?_
    refine WH_guardT rfl rfl hb3.h ?_
    refine WH_loadA _ Hvac.isAgg25 Hvac.sizeOf25 rfl (Hb.h (by repeat (first | assumption | exact Hb.newY _ _ | refine Hb.alloc ?_ | refine Hb.drew ?_ | refine Hb.ext (by assumption) ?_ | exact Hb.setSameL (by first | omega | (simp only [size_alloc, size_setB, size_drew]; omega)) | exact Hb.setSame (by assumption) | refine Hb.set (by first | omega | (simp only [size_alloc, size_setB, size_drew]; omega)) ?_ ))) (by first | omega | assumption | rfl | decide | exact Nat.le_refl _ | (simp only [size_ic, Value.cells]; omega) | (simp; omega) | simp) (Xt.h (by first | assumption | exact Xt.whole rfl rfl | exact Xt.whole rfl (by assumption) | exact Xt.whole rfl (by simp only [size_ic, Value.cells]; omega) | exact ⟨rfl⟩)) ?_
    refine WH_guardT rfl rfl hb3.h ?_
    refine WH_call Hvac.call71 (by rfl) (Ret.mono (code_ex C c v B (bb m) A _ (VS.ext hM.vs (by repeat (first | assumption | exact Ext.refl _ | refine Ext.alloc ?_ _ | refine Ext.drew ?_ | refine Ext.setB ?_ (by first | omega | (simp only [size_alloc, size_setB, size_drew]; omega)) _ | exact Ext.trans (by assumption) (by assumption) | refine Ext.trans ?_ (by assumption)))) hA hcl) ?_)
    rintro _ w2 ⟨hE2, s2, rfl, hN2, hL2, hC2⟩
    refine ⟨(fun h => by cases h), ?_⟩
    have hl2 := hN2.len
    refine WH_guardT rfl rfl hb3.h ?_
    refine WH_p (PS_lenS Hvac.runUnderlying32 rfl) rfl ?_
    refine WH_guardT rfl rfl hb3.h ?_
    refine WH_p (PS_gtr rfl rfl) rfl ?_
    refine WH_p (PS_pickF rfl hb3.h rfl) rfl ?_
    refine WH_p (PS_assign_bool rfl) rfl ?_
    refine WH_nil ?_
    refine thn_normal ?_
    refine W_ret ?_
    refine bodyQ_ret1 Hvac.results74 rfl (.bool _) rfl ?_
    first
    | exact ⟨(by repeat (first | assumption | exact Ext.refl _ | refine Ext.alloc ?_ _ | refine Ext.drew ?_ | refine Ext.setB ?_ (by first | omega | (simp only [size_alloc, size_setB, size_drew]; omega)) _ | refine Ext.trans ?_ (by assumption))), congrArg Value.bool (al_et (by omega)).symm⟩
    | exact ⟨(by repeat (first | assumption | exact Ext.refl _ | refine Ext.alloc ?_ _ | refine Ext.drew ?_ | refine Ext.setB ?_ (by first | omega | (simp only [size_alloc, size_setB, size_drew]; omega)) _ | refine Ext.trans ?_ (by assumption))), congrArg Value.bool (by unfold takenW; exact al_dd.2 (by omega))⟩

end Go.Proofs.YgvacwGreat
