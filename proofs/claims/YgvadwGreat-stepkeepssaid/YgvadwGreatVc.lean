import Derived.Test.YgvadwGreatVb
import Derived.Test.YgvadwGreatFwM
namespace Go.Proofs.YgvadwGreat
set_option linter.unusedSimpArgs false
set_option linter.unusedVariables false
def V.get (v : V) (A : List Int) : Option Acct := if 0 ≤ (v.findA A).1 then v.accts[(v.findA A).1.toNat]? else none
def V.bal (v : V) (A : List Int) : List Int := match v.get A with | some x => x.bal | none => [0, 0, 0, 0]
def V.nonce (v : V) (A : List Int) : Int := match v.get A with | some x => x.nonce | none => 0
def V.isWarmA (v : V) (A : List Int) : Bool := match v.get A with | some x => x.warm | none => false
def V.isMade (v : V) (A : List Int) : Bool := match v.get A with | some x => x.made | none => false
def V.isGone (v : V) (A : List Int) : Bool := match v.get A with | some x => x.gone | none => false
theorem get_some {v : V} {A : List Int} {x : Acct} (h : 0 ≤ (v.findA A).1) (hx : v.accts[(v.findA A).1.toNat]? = some x) : v.get A = some x := by rw [V.get, if_pos h, hx]
theorem get_none {v : V} {A : List Int} (h : ¬ 0 ≤ (v.findA A).1) : v.get A = none := by rw [V.get, if_neg h]
def V.peekS (v : V) (A K : List Int) : Int := if (v.findA A).1 < 0 then -1 else (v.findS (v.findA A).1 K).1
def V.getS (v : V) (A K : List Int) : Option Slot := if 0 ≤ v.peekS A K then v.slots[(v.peekS A K).toNat]? else none
def V.sval (v : V) (A K : List Int) : List Int := match v.getS A K with | some x => x.val | none => [0, 0, 0, 0]
def V.sorig (v : V) (A K : List Int) : List Int := match v.getS A K with | some x => x.orig | none => [0, 0, 0, 0]
def V.isWarmS (v : V) (A K : List Int) : Bool := match v.getS A K with | some x => x.warm | none => false
theorem peekS_some {v : V} {A K : List Int} (h : 0 ≤ v.peekS A K) : ∃ x, v.slots[(v.peekS A K).toNat]? = some x ∧ x.acct = (v.findA A).1 ∧ x.key = K := by
  unfold V.peekS at h ⊢
  split
  · rename_i h0; rw [if_pos h0] at h; omega
  · rename_i h0; rw [if_neg h0] at h; exact findS_some h
theorem peekS_range (v : V) (A K : List Int) : -1 ≤ v.peekS A K := by
  unfold V.peekS; split
  · omega
  · exact (findS_range _ _ _).1
theorem getS_some {v : V} {A K : List Int} {x : Slot} (h : 0 ≤ v.peekS A K) (hx : v.slots[(v.peekS A K).toNat]? = some x) : v.getS A K = some x := by rw [V.getS, if_pos h, hx]
theorem getS_none {v : V} {A K : List Int} (h : ¬ 0 ≤ v.peekS A K) : v.getS A K = none := by rw [V.getS, if_neg h]
theorem findA_i32 {w : World} {C : Nat} {c : Array Value} {v : V} {B : VB} {β : Option Nat} (hv : VS w C c v B β) (A : List Int) : I32 (v.findA A).1 := by
  have h1 := (findA_range v A).1
  by_cases h : 0 ≤ (v.findA A).1
  · have := findA_lt h; have := hv.ty.la; unfold I32; omega
  · unfold I32; omega

set_option maxRecDepth 10000 in
theorem balance_spec (C : Nat) (c : Array Value) (v : V) (B : VB) (β : Option Nat) (A : List Int) (w : World) (hv : VS w C c v B β) (hA : By A 20) : Ret Hvad.prog 36 #[.pointer (some ⟨C, 2435, none⟩), .agg (ic .u8 A)] w fun u w' => u = .agg (ic .u64 (v.bal A)) ∧ Ext w w' := by
  have hAl := hA.1
  have hr0 := findA_range v A
  refine Ret_of_W Hvad.func36 rfl rfl ?_
  refine W_seq ?_
  refine W_region rfl ?_
  refine WO_box (.agg _) rfl ?_
  refine WO_alloc Hvad.zeroValue59 ?_
  refine WO_nil ?_
  refine thn_normal ?_
  refine W_seq ?_
  refine W_seq ?_
  refine W_region rfl ?_
  refine WO_p (PS_move_ptr rfl) ?_
  refine WO_loadA _ Hvad.isAgg25 Hvad.sizeOf25 rfl (Hb.h (by repeat (first | assumption | exact Hb.newY _ _ | refine Hb.alloc ?_ | refine Hb.drew ?_ | refine Hb.ext (by assumption) ?_ | exact Hb.setSameL (by first | omega | (simp only [size_alloc, size_setB, size_drew]; omega)) | exact Hb.setSame (by assumption) | refine Hb.set (by first | omega | (simp only [size_alloc, size_setB, size_drew]; omega)) ?_ ))) (by first | omega | assumption | rfl | decide | (simp only [size_ic, Value.cells]; omega) | simp) (Xt.h (by first | assumption | exact Xt.whole rfl rfl | exact Xt.whole rfl (by simp only [size_ic, Value.cells]; omega) | exact ⟨rfl⟩)) ?_
  refine WO_call Hvad.call75 (by rfl) (Ret.mono (findAcct_spec C c v B β A _ (hv.ext (by repeat (first | assumption | exact Ext.refl _ | refine Ext.alloc ?_ _ | refine Ext.drew ?_ | refine Ext.setB ?_ (by first | omega | (simp only [size_alloc, size_setB, size_drew]; omega)) _ | exact Ext.trans (by assumption) (by assumption) | refine Ext.trans ?_ (by assumption)))) hA) ?_)
  rintro _ w1 ⟨rfl, hE1⟩
  have hv1 := hv.ext (Ext.trans (by repeat (first | assumption | exact Ext.refl _ | refine Ext.alloc ?_ _ | refine Ext.drew ?_ | refine Ext.setB ?_ (by first | omega | (simp only [size_alloc, size_setB, size_drew]; omega)) _ | exact Ext.trans (by assumption) (by assumption) | refine Ext.trans ?_ (by assumption))) hE1)
  have hblk := hv1.blk
  have hsz1 := hE1.1
  simp only [size_alloc] at hsz1
  refine WO_p (PS_move_tuple rfl) ?_
  refine WO_p (PS_extract_int rfl rfl) ?_
  refine WO_p (PS_extract_int rfl rfl) ?_
  refine WO_p (PS_assign_int rfl) ?_
  refine WO_p (PS_assign_int rfl) ?_
  refine WO_nil ?_
  refine thn_normal ?_
  refine W_seq ?_
  refine W_region rfl ?_
  refine WO_p (PS_move_int rfl) ?_
  refine WO_p (PS_geq rfl rfl) ?_
  refine WO_nil ?_
  refine thn_normal ?_
  refine W_if rfl (fun hb3 => ?_) (fun hb3 => ?_)
  · have hb3p := hb3.h; simp only [al_ete, al_dfn, Bool.not_eq_true', Bool.not_eq_false', al_ne, Bool.not_not, al_nn] at hb3p
    have h0 : 0 ≤ (v.findA A).1 := by omega
    obtain ⟨x, hx, hxA⟩ := findA_some h0
    obtain ⟨b, cap, r, hab, hcap, hr, hrs, hrow, hda, hbd, hil, hty, f0, f1, f2, f3, f4, f5, f6⟩ := hv1.openA hx
    have hlx : x.bal.length = 4 := hty.2.2.1
    have hg := get_some h0 hx
    refine W_seq ?_
    refine W_region rfl ?_
    refine WO_p (PS_move_ptr rfl) ?_
    refine WO_p (PS_nilCheck rfl) ?_
    refine WO_p (PS_fieldAddr 0 Hvad.runUnderlying79 rfl Hvad.sizeOf70 rfl rfl) ?_
    refine WO_load (.slice _ _ _) Hvad.isAgg70 rfl (Hb.h (by repeat (first | assumption | exact Hb.newY _ _ | refine Hb.alloc ?_ | refine Hb.drew ?_ | refine Hb.ext (by assumption) ?_ | exact Hb.setSameL (by first | omega | (simp only [size_alloc, size_setB, size_drew]; omega)) | exact Hb.setSame (by assumption) | refine Hb.set (by first | omega | (simp only [size_alloc, size_setB, size_drew]; omega)) ?_ ))) (Ce.h (by first | assumption | exact ⟨rfl⟩)) ?_
    refine WO_p (PS_move_int rfl) ?_
    refine WO_p (PS_indexS Hvad.runUnderlying70 Hvad.sizeOf149 rfl rfl (by omega) (by omega)) ?_
    refine WO_p (PS_fieldAddr 21 Hvad.runUnderlying149 rfl Hvad.sizeOf59 rfl rfl) ?_
    refine WO_loadA _ Hvad.isAgg59 Hvad.sizeOf59 rfl (Hb.h (by repeat (first | assumption | exact Hb.newY _ _ | refine Hb.alloc ?_ | refine Hb.drew ?_ | refine Hb.ext (by assumption) ?_ | exact Hb.setSameL (by first | omega | (simp only [size_alloc, size_setB, size_drew]; omega)) | exact Hb.setSame (by assumption) | refine Hb.set (by first | omega | (simp only [size_alloc, size_setB, size_drew]; omega)) ?_ ))) (by first | omega | assumption | rfl | decide | (simp only [size_ic, Value.cells]; omega) | simp) (Xt.h (by first | assumption | exact Xt.whole rfl rfl | exact Xt.whole rfl (by simp only [size_ic, Value.cells]; omega) | exact ⟨rfl⟩)) ?_
    first | refine WO_storeW Hvad.sizeOf59 rfl (v := .agg _) rfl (Hb.h (by repeat (first | assumption | exact Hb.newY _ _ | refine Hb.alloc ?_ | refine Hb.drew ?_ | refine Hb.ext (by assumption) ?_ | exact Hb.setSameL (by first | omega | (simp only [size_alloc, size_setB, size_drew]; omega)) | exact Hb.setSame (by assumption) | refine Hb.set (by first | omega | (simp only [size_alloc, size_setB, size_drew]; omega)) ?_ ))) rfl (by first | omega | assumption | rfl | decide | (simp only [size_ic, Value.cells]; omega) | simp) (by first | omega | assumption | rfl | decide | (simp only [size_ic, Value.cells]; omega) | simp) (by first | exact oneCell_ic | assumption) ?_ | refine WO_store Hvad.sizeOf59 rfl (v := .agg _) rfl (Hb.h (by repeat (first | assumption | exact Hb.newY _ _ | refine Hb.alloc ?_ | refine Hb.drew ?_ | refine Hb.ext (by assumption) ?_ | exact Hb.setSameL (by first | omega | (simp only [size_alloc, size_setB, size_drew]; omega)) | exact Hb.setSame (by assumption) | refine Hb.set (by first | omega | (simp only [size_alloc, size_setB, size_drew]; omega)) ?_ ))) (by first | omega | assumption | rfl | decide | (simp only [size_ic, Value.cells]; omega) | simp) (by first | omega | assumption | rfl | decide | (simp only [size_ic, Value.cells]; omega) | simp) (by first | exact oneCell_ic | assumption) ?_
    refine WO_nil ?_
    refine thn_normal ?_
    refine W_ret ?_
    refine thn_ret ?_
    refine bodyQ_cell1 Hvad.results36 rfl Hvad.isAgg59 Hvad.sizeOf59 rfl (Hb.h (by repeat (first | assumption | exact Hb.newY _ _ | refine Hb.alloc ?_ | refine Hb.drew ?_ | refine Hb.ext (by assumption) ?_ | exact Hb.setSameL (by first | omega | (simp only [size_alloc, size_setB, size_drew]; omega)) | exact Hb.setSame (by assumption) | refine Hb.set (by first | omega | (simp only [size_alloc, size_setB, size_drew]; omega)) ?_ ))) (by first | omega | assumption | rfl | decide | (simp only [size_ic, Value.cells]; omega) | simp) ?_
    rw [V.bal, hg]; exact ⟨rfl, (by repeat (first | assumption | exact Ext.refl _ | refine Ext.alloc ?_ _ | refine Ext.drew ?_ | refine Ext.setB ?_ (by first | omega | (simp only [size_alloc, size_setB, size_drew]; omega)) _ | refine Ext.trans ?_ (by assumption)))⟩
  · have hb3p := hb3.h; simp only [al_ete, al_dfn, Bool.not_eq_true', Bool.not_eq_false', al_ne, Bool.not_not, al_nn] at hb3p
    have h0 : ¬ 0 ≤ (v.findA A).1 := by omega
    have hg := get_none h0
    refine W_skip ?_
    refine thn_normal ?_
    refine W_seq ?_
    refine W_region rfl ?_
    refine WO_p (PS_buildI (k := .u64) (zs := [0, 0, 0, 0]) (ps := []) (L := [0, 0, 0, 0]) Hvad.zeroValue59 Hvad.runUnderlying59 Hvad.sizeOf26 rfl rfl rfl rfl) ?_
    first | refine WO_storeW Hvad.sizeOf59 rfl (v := .agg _) rfl (Hb.h (by repeat (first | assumption | exact Hb.newY _ _ | refine Hb.alloc ?_ | refine Hb.drew ?_ | refine Hb.ext (by assumption) ?_ | exact Hb.setSameL (by first | omega | (simp only [size_alloc, size_setB, size_drew]; omega)) | exact Hb.setSame (by assumption) | refine Hb.set (by first | omega | (simp only [size_alloc, size_setB, size_drew]; omega)) ?_ ))) rfl (by first | omega | assumption | rfl | decide | (simp only [size_ic, Value.cells]; omega) | simp) (by first | omega | assumption | rfl | decide | (simp only [size_ic, Value.cells]; omega) | simp) (by first | exact oneCell_ic | assumption) ?_ | refine WO_store Hvad.sizeOf59 rfl (v := .agg _) rfl (Hb.h (by repeat (first | assumption | exact Hb.newY _ _ | refine Hb.alloc ?_ | refine Hb.drew ?_ | refine Hb.ext (by assumption) ?_ | exact Hb.setSameL (by first | omega | (simp only [size_alloc, size_setB, size_drew]; omega)) | exact Hb.setSame (by assumption) | refine Hb.set (by first | omega | (simp only [size_alloc, size_setB, size_drew]; omega)) ?_ ))) (by first | omega | assumption | rfl | decide | (simp only [size_ic, Value.cells]; omega) | simp) (by first | omega | assumption | rfl | decide | (simp only [size_ic, Value.cells]; omega) | simp) (by first | exact oneCell_ic | assumption) ?_
    refine WO_nil ?_
    refine thn_normal ?_
    refine W_ret ?_
    refine bodyQ_cell1 Hvad.results36 rfl Hvad.isAgg59 Hvad.sizeOf59 rfl (Hb.h (by repeat (first | assumption | exact Hb.newY _ _ | refine Hb.alloc ?_ | refine Hb.drew ?_ | refine Hb.ext (by assumption) ?_ | exact Hb.setSameL (by first | omega | (simp only [size_alloc, size_setB, size_drew]; omega)) | exact Hb.setSame (by assumption) | refine Hb.set (by first | omega | (simp only [size_alloc, size_setB, size_drew]; omega)) ?_ ))) (by first | omega | assumption | rfl | decide | (simp only [size_ic, Value.cells]; omega) | simp) ?_
    rw [V.bal, hg]; exact ⟨rfl, (by repeat (first | assumption | exact Ext.refl _ | refine Ext.alloc ?_ _ | refine Ext.drew ?_ | refine Ext.setB ?_ (by first | omega | (simp only [size_alloc, size_setB, size_drew]; omega)) _ | refine Ext.trans ?_ (by assumption)))⟩

set_option maxRecDepth 10000 in
theorem nonce_spec (C : Nat) (c : Array Value) (v : V) (B : VB) (β : Option Nat) (A : List Int) (w : World) (hv : VS w C c v B β) (hA : By A 20) : Ret Hvad.prog 62 #[.pointer (some ⟨C, 2435, none⟩), .agg (ic .u8 A)] w fun u w' => u = .int .u64 (v.nonce A) ∧ Ext w w' := by
  have hAl := hA.1
  have hr0 := findA_range v A
  refine Ret_of_W Hvad.func62 rfl rfl ?_
  refine W_seq ?_
  refine W_region rfl ?_
  refine WO_box (.agg _) rfl ?_
  refine WO_p (PS_assign_int rfl) ?_
  refine WO_nil ?_
  refine thn_normal ?_
  refine W_seq ?_
  refine W_seq ?_
  refine W_region rfl ?_
  refine WO_p (PS_move_ptr rfl) ?_
  refine WO_loadA _ Hvad.isAgg25 Hvad.sizeOf25 rfl (Hb.h (by repeat (first | assumption | exact Hb.newY _ _ | refine Hb.alloc ?_ | refine Hb.drew ?_ | refine Hb.ext (by assumption) ?_ | exact Hb.setSameL (by first | omega | (simp only [size_alloc, size_setB, size_drew]; omega)) | exact Hb.setSame (by assumption) | refine Hb.set (by first | omega | (simp only [size_alloc, size_setB, size_drew]; omega)) ?_ ))) (by first | omega | assumption | rfl | decide | (simp only [size_ic, Value.cells]; omega) | simp) (Xt.h (by first | assumption | exact Xt.whole rfl rfl | exact Xt.whole rfl (by simp only [size_ic, Value.cells]; omega) | exact ⟨rfl⟩)) ?_
  refine WO_call Hvad.call75 (by rfl) (Ret.mono (findAcct_spec C c v B β A _ (hv.ext (by repeat (first | assumption | exact Ext.refl _ | refine Ext.alloc ?_ _ | refine Ext.drew ?_ | refine Ext.setB ?_ (by first | omega | (simp only [size_alloc, size_setB, size_drew]; omega)) _ | exact Ext.trans (by assumption) (by assumption) | refine Ext.trans ?_ (by assumption)))) hA) ?_)
  rintro _ w1 ⟨rfl, hE1⟩
  have hv1 := hv.ext (Ext.trans (by repeat (first | assumption | exact Ext.refl _ | refine Ext.alloc ?_ _ | refine Ext.drew ?_ | refine Ext.setB ?_ (by first | omega | (simp only [size_alloc, size_setB, size_drew]; omega)) _ | exact Ext.trans (by assumption) (by assumption) | refine Ext.trans ?_ (by assumption))) hE1)
  have hblk := hv1.blk
  have hsz1 := hE1.1
  simp only [size_alloc] at hsz1
  refine WO_p (PS_move_tuple rfl) ?_
  refine WO_p (PS_extract_int rfl rfl) ?_
  refine WO_p (PS_extract_int rfl rfl) ?_
  refine WO_p (PS_assign_int rfl) ?_
  refine WO_p (PS_assign_int rfl) ?_
  refine WO_nil ?_
  refine thn_normal ?_
  refine W_seq ?_
  refine W_region rfl ?_
  refine WO_p (PS_move_int rfl) ?_
  refine WO_p (PS_geq rfl rfl) ?_
  refine WO_nil ?_
  refine thn_normal ?_
  refine W_if rfl (fun hb3 => ?_) (fun hb3 => ?_)
  · have hb3p := hb3.h; simp only [al_ete, al_dfn, Bool.not_eq_true', Bool.not_eq_false', al_ne, Bool.not_not, al_nn] at hb3p
    have h0 : 0 ≤ (v.findA A).1 := by omega
    obtain ⟨x, hx, hxA⟩ := findA_some h0
    obtain ⟨b, cap, r, hab, hcap, hr, hrs, hrow, hda, hbd, hil, hty, f0, f1, f2, f3, f4, f5, f6⟩ := hv1.openA hx
    have hlx : x.bal.length = 4 := hty.2.2.1
    have hg := get_some h0 hx
    refine W_seq ?_
    refine W_region rfl ?_
    refine WO_p (PS_move_ptr rfl) ?_
    refine WO_p (PS_nilCheck rfl) ?_
    refine WO_p (PS_fieldAddr 0 Hvad.runUnderlying79 rfl Hvad.sizeOf70 rfl rfl) ?_
    refine WO_load (.slice _ _ _) Hvad.isAgg70 rfl (Hb.h (by repeat (first | assumption | exact Hb.newY _ _ | refine Hb.alloc ?_ | refine Hb.drew ?_ | refine Hb.ext (by assumption) ?_ | exact Hb.setSameL (by first | omega | (simp only [size_alloc, size_setB, size_drew]; omega)) | exact Hb.setSame (by assumption) | refine Hb.set (by first | omega | (simp only [size_alloc, size_setB, size_drew]; omega)) ?_ ))) (Ce.h (by first | assumption | exact ⟨rfl⟩)) ?_
    refine WO_p (PS_move_int rfl) ?_
    refine WO_p (PS_indexS Hvad.runUnderlying70 Hvad.sizeOf149 rfl rfl (by omega) (by omega)) ?_
    refine WO_p (PS_fieldAddr 20 Hvad.runUnderlying149 rfl Hvad.sizeOf26 rfl rfl) ?_
    refine WO_load (.int _ _) Hvad.isAgg26 rfl (Hb.h (by repeat (first | assumption | exact Hb.newY _ _ | refine Hb.alloc ?_ | refine Hb.drew ?_ | refine Hb.ext (by assumption) ?_ | exact Hb.setSameL (by first | omega | (simp only [size_alloc, size_setB, size_drew]; omega)) | exact Hb.setSame (by assumption) | refine Hb.set (by first | omega | (simp only [size_alloc, size_setB, size_drew]; omega)) ?_ ))) (Ce.h (by first | assumption | exact ⟨rfl⟩)) ?_
    refine WO_p (PS_assign_int rfl) ?_
    refine WO_nil ?_
    refine thn_normal ?_
    refine W_ret ?_
    refine thn_ret ?_
    refine bodyQ_ret1 Hvad.results62 rfl (.int _ _) rfl ?_
    rw [V.nonce, hg]; exact ⟨rfl, (by repeat (first | assumption | exact Ext.refl _ | refine Ext.alloc ?_ _ | refine Ext.drew ?_ | refine Ext.setB ?_ (by first | omega | (simp only [size_alloc, size_setB, size_drew]; omega)) _ | refine Ext.trans ?_ (by assumption)))⟩
  · have hb3p := hb3.h; simp only [al_ete, al_dfn, Bool.not_eq_true', Bool.not_eq_false', al_ne, Bool.not_not, al_nn] at hb3p
    have h0 : ¬ 0 ≤ (v.findA A).1 := by omega
    have hg := get_none h0
    refine W_skip ?_
    refine thn_normal ?_
    refine W_seq ?_
    refine W_region rfl ?_
    refine WO_p (PS_assign_int rfl) ?_
    refine WO_nil ?_
    refine thn_normal ?_
    refine W_ret ?_
    refine bodyQ_ret1 Hvad.results62 rfl (.int _ _) rfl ?_
    rw [V.nonce, hg]; exact ⟨rfl, (by repeat (first | assumption | exact Ext.refl _ | refine Ext.alloc ?_ _ | refine Ext.drew ?_ | refine Ext.setB ?_ (by first | omega | (simp only [size_alloc, size_setB, size_drew]; omega)) _ | refine Ext.trans ?_ (by assumption)))⟩

set_option maxRecDepth 10000 in
theorem isWarmA_spec (C : Nat) (c : Array Value) (v : V) (B : VB) (β : Option Nat) (A : List Int) (w : World) (hv : VS w C c v B β) (hA : By A 20) : Ret Hvad.prog 76 #[.pointer (some ⟨C, 2435, none⟩), .agg (ic .u8 A)] w fun u w' => u = .bool (v.isWarmA A) ∧ Ext w w' := by
  have hAl := hA.1
  have hr0 := findA_range v A
  refine Ret_of_W Hvad.func76 rfl rfl ?_
  refine W_seq ?_
  refine W_region rfl ?_
  refine WO_box (.agg _) rfl ?_
  refine WO_p (PS_assign_bool rfl) ?_
  refine WO_nil ?_
  refine thn_normal ?_
  refine W_seq ?_
  refine W_region rfl ?_
  refine WO_p (PS_move_ptr rfl) ?_
  refine WO_loadA _ Hvad.isAgg25 Hvad.sizeOf25 rfl (Hb.h (by repeat (first | assumption | exact Hb.newY _ _ | refine Hb.alloc ?_ | refine Hb.drew ?_ | refine Hb.ext (by assumption) ?_ | exact Hb.setSameL (by first | omega | (simp only [size_alloc, size_setB, size_drew]; omega)) | exact Hb.setSame (by assumption) | refine Hb.set (by first | omega | (simp only [size_alloc, size_setB, size_drew]; omega)) ?_ ))) (by first | omega | assumption | rfl | decide | (simp only [size_ic, Value.cells]; omega) | simp) (Xt.h (by first | assumption | exact Xt.whole rfl rfl | exact Xt.whole rfl (by simp only [size_ic, Value.cells]; omega) | exact ⟨rfl⟩)) ?_
  refine WO_call Hvad.call75 (by rfl) (Ret.mono (findAcct_spec C c v B β A _ (hv.ext (by repeat (first | assumption | exact Ext.refl _ | refine Ext.alloc ?_ _ | refine Ext.drew ?_ | refine Ext.setB ?_ (by first | omega | (simp only [size_alloc, size_setB, size_drew]; omega)) _ | exact Ext.trans (by assumption) (by assumption) | refine Ext.trans ?_ (by assumption)))) hA) ?_)
  rintro _ w1 ⟨rfl, hE1⟩
  have hv1 := hv.ext (Ext.trans (by repeat (first | assumption | exact Ext.refl _ | refine Ext.alloc ?_ _ | refine Ext.drew ?_ | refine Ext.setB ?_ (by first | omega | (simp only [size_alloc, size_setB, size_drew]; omega)) _ | exact Ext.trans (by assumption) (by assumption) | refine Ext.trans ?_ (by assumption))) hE1)
  have hblk := hv1.blk
  have hsz1 := hE1.1
  simp only [size_alloc] at hsz1
  refine WO_p (PS_move_tuple rfl) ?_
  refine WO_p (PS_extract_int rfl rfl) ?_
  refine WO_p (PS_extract_int rfl rfl) ?_
  refine WO_p (PS_assign_int rfl) ?_
  refine WO_p (PS_assign_int rfl) ?_
  refine WO_nil ?_
  refine thn_normal ?_
  refine W_seq ?_
  refine W_region rfl ?_
  refine WO_p (PS_move_int rfl) ?_
  refine WO_p (PS_geq rfl rfl) ?_
  refine WO_p (PS_move_bool rfl) ?_
  refine WO_if (t := 15) rfl (fun hb3 => ?_) (fun hb3 => ?_)
  · have hb3p := hb3.h; simp only [al_ete, al_dfn, Bool.not_eq_true', Bool.not_eq_false', al_ne, Bool.not_not, al_nn] at hb3p
    have h0 : 0 ≤ (v.findA A).1 := by omega
    obtain ⟨x, hx, hxA⟩ := findA_some h0
    obtain ⟨b, cap, r, hab, hcap, hr, hrs, hrow, hda, hbd, hil, hty, f0, f1, f2, f3, f4, f5, f6⟩ := hv1.openA hx
    have hlx : x.bal.length = 4 := hty.2.2.1
    have hg := get_some h0 hx
    refine WO_guardT rfl rfl hb3.h ?_
    refine WO_p (PS_move_ptr rfl) ?_
    refine WO_guardT rfl rfl hb3.h ?_
    refine WO_p (PS_nilCheck rfl) ?_
    refine WO_guardT rfl rfl hb3.h ?_
    refine WO_p (PS_fieldAddr 0 Hvad.runUnderlying79 rfl Hvad.sizeOf70 rfl rfl) ?_
    refine WO_guardT rfl rfl hb3.h ?_
    refine WO_load (.slice _ _ _) Hvad.isAgg70 rfl (Hb.h (by repeat (first | assumption | exact Hb.newY _ _ | refine Hb.alloc ?_ | refine Hb.drew ?_ | refine Hb.ext (by assumption) ?_ | exact Hb.setSameL (by first | omega | (simp only [size_alloc, size_setB, size_drew]; omega)) | exact Hb.setSame (by assumption) | refine Hb.set (by first | omega | (simp only [size_alloc, size_setB, size_drew]; omega)) ?_ ))) (Ce.h (by first | assumption | exact ⟨rfl⟩)) ?_
    refine WO_guardT rfl rfl hb3.h ?_
    refine WO_p (PS_move_int rfl) ?_
    refine WO_guardT rfl rfl hb3.h ?_
    refine WO_p (PS_indexS Hvad.runUnderlying70 Hvad.sizeOf149 rfl rfl (by omega) (by omega)) ?_
    refine WO_guardT rfl rfl hb3.h ?_
    refine WO_p (PS_fieldAddr 26 Hvad.runUnderlying149 rfl Hvad.sizeOf4 rfl rfl) ?_
    refine WO_guardT rfl rfl hb3.h ?_
    refine WO_load (.bool _) Hvad.isAgg4 rfl (Hb.h (by repeat (first | assumption | exact Hb.newY _ _ | refine Hb.alloc ?_ | refine Hb.drew ?_ | refine Hb.ext (by assumption) ?_ | exact Hb.setSameL (by first | omega | (simp only [size_alloc, size_setB, size_drew]; omega)) | exact Hb.setSame (by assumption) | refine Hb.set (by first | omega | (simp only [size_alloc, size_setB, size_drew]; omega)) ?_ ))) (Ce.h (by first | assumption | exact ⟨rfl⟩)) ?_
    refine WO_p (PS_pickT rfl hb3.h rfl) ?_
    refine WO_p (PS_assign_bool rfl) ?_
    refine WO_nil ?_
    refine thn_normal ?_
    refine W_ret ?_
    refine bodyQ_ret1 Hvad.results76 rfl (.bool _) rfl ?_
    rw [V.isWarmA, hg]; exact ⟨rfl, (by repeat (first | assumption | exact Ext.refl _ | refine Ext.alloc ?_ _ | refine Ext.drew ?_ | refine Ext.setB ?_ (by first | omega | (simp only [size_alloc, size_setB, size_drew]; omega)) _ | refine Ext.trans ?_ (by assumption)))⟩
  · have hb3p := hb3.h; simp only [al_ete, al_dfn, Bool.not_eq_true', Bool.not_eq_false', al_ne, Bool.not_not, al_nn] at hb3p
    have h0 : ¬ 0 ≤ (v.findA A).1 := by omega
    have hg := get_none h0
    refine WO_guardF rfl rfl hb3.h ?_
    refine WO_guardF rfl rfl hb3.h ?_
    refine WO_guardF rfl rfl hb3.h ?_
    refine WO_guardF rfl rfl hb3.h ?_
    refine WO_guardF rfl rfl hb3.h ?_
    refine WO_guardF rfl rfl hb3.h ?_
    refine WO_guardF rfl rfl hb3.h ?_
    refine WO_guardF rfl rfl hb3.h ?_
    refine WO_p (PS_pickF rfl hb3.h rfl) ?_
    refine WO_p (PS_assign_bool rfl) ?_
    refine WO_nil ?_
    refine thn_normal ?_
    refine W_ret ?_
    refine bodyQ_ret1 Hvad.results76 rfl (.bool _) rfl ?_
    rw [V.isWarmA, hg]; exact ⟨rfl, (by repeat (first | assumption | exact Ext.refl _ | refine Ext.alloc ?_ _ | refine Ext.drew ?_ | refine Ext.setB ?_ (by first | omega | (simp only [size_alloc, size_setB, size_drew]; omega)) _ | refine Ext.trans ?_ (by assumption)))⟩

set_option maxRecDepth 10000 in
theorem isMade_spec (C : Nat) (c : Array Value) (v : V) (B : VB) (β : Option Nat) (A : List Int) (w : World) (hv : VS w C c v B β) (hA : By A 20) : Ret Hvad.prog 209 #[.pointer (some ⟨C, 2435, none⟩), .agg (ic .u8 A)] w fun u w' => u = .bool (v.isMade A) ∧ Ext w w' := by
  have hAl := hA.1
  have hr0 := findA_range v A
  refine Ret_of_W Hvad.func209 rfl rfl ?_
  refine W_seq ?_
  refine W_region rfl ?_
  refine WO_box (.agg _) rfl ?_
  refine WO_p (PS_assign_bool rfl) ?_
  refine WO_nil ?_
  refine thn_normal ?_
  refine W_seq ?_
  refine W_region rfl ?_
  refine WO_p (PS_move_ptr rfl) ?_
  refine WO_loadA _ Hvad.isAgg25 Hvad.sizeOf25 rfl (Hb.h (by repeat (first | assumption | exact Hb.newY _ _ | refine Hb.alloc ?_ | refine Hb.drew ?_ | refine Hb.ext (by assumption) ?_ | exact Hb.setSameL (by first | omega | (simp only [size_alloc, size_setB, size_drew]; omega)) | exact Hb.setSame (by assumption) | refine Hb.set (by first | omega | (simp only [size_alloc, size_setB, size_drew]; omega)) ?_ ))) (by first | omega | assumption | rfl | decide | (simp only [size_ic, Value.cells]; omega) | simp) (Xt.h (by first | assumption | exact Xt.whole rfl rfl | exact Xt.whole rfl (by simp only [size_ic, Value.cells]; omega) | exact ⟨rfl⟩)) ?_
  refine WO_call Hvad.call75 (by rfl) (Ret.mono (findAcct_spec C c v B β A _ (hv.ext (by repeat (first | assumption | exact Ext.refl _ | refine Ext.alloc ?_ _ | refine Ext.drew ?_ | refine Ext.setB ?_ (by first | omega | (simp only [size_alloc, size_setB, size_drew]; omega)) _ | exact Ext.trans (by assumption) (by assumption) | refine Ext.trans ?_ (by assumption)))) hA) ?_)
  rintro _ w1 ⟨rfl, hE1⟩
  have hv1 := hv.ext (Ext.trans (by repeat (first | assumption | exact Ext.refl _ | refine Ext.alloc ?_ _ | refine Ext.drew ?_ | refine Ext.setB ?_ (by first | omega | (simp only [size_alloc, size_setB, size_drew]; omega)) _ | exact Ext.trans (by assumption) (by assumption) | refine Ext.trans ?_ (by assumption))) hE1)
  have hblk := hv1.blk
  have hsz1 := hE1.1
  simp only [size_alloc] at hsz1
  refine WO_p (PS_move_tuple rfl) ?_
  refine WO_p (PS_extract_int rfl rfl) ?_
  refine WO_p (PS_extract_int rfl rfl) ?_
  refine WO_p (PS_assign_int rfl) ?_
  refine WO_p (PS_assign_int rfl) ?_
  refine WO_nil ?_
  refine thn_normal ?_
  refine W_seq ?_
  refine W_region rfl ?_
  refine WO_p (PS_move_int rfl) ?_
  refine WO_p (PS_geq rfl rfl) ?_
  refine WO_p (PS_move_bool rfl) ?_
  refine WO_if (t := 15) rfl (fun hb3 => ?_) (fun hb3 => ?_)
  · have hb3p := hb3.h; simp only [al_ete, al_dfn, Bool.not_eq_true', Bool.not_eq_false', al_ne, Bool.not_not, al_nn] at hb3p
    have h0 : 0 ≤ (v.findA A).1 := by omega
    obtain ⟨x, hx, hxA⟩ := findA_some h0
    obtain ⟨b, cap, r, hab, hcap, hr, hrs, hrow, hda, hbd, hil, hty, f0, f1, f2, f3, f4, f5, f6⟩ := hv1.openA hx
    have hlx : x.bal.length = 4 := hty.2.2.1
    have hg := get_some h0 hx
    refine WO_guardT rfl rfl hb3.h ?_
    refine WO_p (PS_move_ptr rfl) ?_
    refine WO_guardT rfl rfl hb3.h ?_
    refine WO_p (PS_nilCheck rfl) ?_
    refine WO_guardT rfl rfl hb3.h ?_
    refine WO_p (PS_fieldAddr 0 Hvad.runUnderlying79 rfl Hvad.sizeOf70 rfl rfl) ?_
    refine WO_guardT rfl rfl hb3.h ?_
    refine WO_load (.slice _ _ _) Hvad.isAgg70 rfl (Hb.h (by repeat (first | assumption | exact Hb.newY _ _ | refine Hb.alloc ?_ | refine Hb.drew ?_ | refine Hb.ext (by assumption) ?_ | exact Hb.setSameL (by first | omega | (simp only [size_alloc, size_setB, size_drew]; omega)) | exact Hb.setSame (by assumption) | refine Hb.set (by first | omega | (simp only [size_alloc, size_setB, size_drew]; omega)) ?_ ))) (Ce.h (by first | assumption | exact ⟨rfl⟩)) ?_
    refine WO_guardT rfl rfl hb3.h ?_
    refine WO_p (PS_move_int rfl) ?_
    refine WO_guardT rfl rfl hb3.h ?_
    refine WO_p (PS_indexS Hvad.runUnderlying70 Hvad.sizeOf149 rfl rfl (by omega) (by omega)) ?_
    refine WO_guardT rfl rfl hb3.h ?_
    refine WO_p (PS_fieldAddr 27 Hvad.runUnderlying149 rfl Hvad.sizeOf4 rfl rfl) ?_
    refine WO_guardT rfl rfl hb3.h ?_
    refine WO_load (.bool _) Hvad.isAgg4 rfl (Hb.h (by repeat (first | assumption | exact Hb.newY _ _ | refine Hb.alloc ?_ | refine Hb.drew ?_ | refine Hb.ext (by assumption) ?_ | exact Hb.setSameL (by first | omega | (simp only [size_alloc, size_setB, size_drew]; omega)) | exact Hb.setSame (by assumption) | refine Hb.set (by first | omega | (simp only [size_alloc, size_setB, size_drew]; omega)) ?_ ))) (Ce.h (by first | assumption | exact ⟨rfl⟩)) ?_
    refine WO_p (PS_pickT rfl hb3.h rfl) ?_
    refine WO_p (PS_assign_bool rfl) ?_
    refine WO_nil ?_
    refine thn_normal ?_
    refine W_ret ?_
    refine bodyQ_ret1 Hvad.results209 rfl (.bool _) rfl ?_
    rw [V.isMade, hg]; exact ⟨rfl, (by repeat (first | assumption | exact Ext.refl _ | refine Ext.alloc ?_ _ | refine Ext.drew ?_ | refine Ext.setB ?_ (by first | omega | (simp only [size_alloc, size_setB, size_drew]; omega)) _ | refine Ext.trans ?_ (by assumption)))⟩
  · have hb3p := hb3.h; simp only [al_ete, al_dfn, Bool.not_eq_true', Bool.not_eq_false', al_ne, Bool.not_not, al_nn] at hb3p
    have h0 : ¬ 0 ≤ (v.findA A).1 := by omega
    have hg := get_none h0
    refine WO_guardF rfl rfl hb3.h ?_
    refine WO_guardF rfl rfl hb3.h ?_
    refine WO_guardF rfl rfl hb3.h ?_
    refine WO_guardF rfl rfl hb3.h ?_
    refine WO_guardF rfl rfl hb3.h ?_
    refine WO_guardF rfl rfl hb3.h ?_
    refine WO_guardF rfl rfl hb3.h ?_
    refine WO_guardF rfl rfl hb3.h ?_
    refine WO_p (PS_pickF rfl hb3.h rfl) ?_
    refine WO_p (PS_assign_bool rfl) ?_
    refine WO_nil ?_
    refine thn_normal ?_
    refine W_ret ?_
    refine bodyQ_ret1 Hvad.results209 rfl (.bool _) rfl ?_
    rw [V.isMade, hg]; exact ⟨rfl, (by repeat (first | assumption | exact Ext.refl _ | refine Ext.alloc ?_ _ | refine Ext.drew ?_ | refine Ext.setB ?_ (by first | omega | (simp only [size_alloc, size_setB, size_drew]; omega)) _ | refine Ext.trans ?_ (by assumption)))⟩

set_option maxRecDepth 10000 in
theorem isGone_spec (C : Nat) (c : Array Value) (v : V) (B : VB) (β : Option Nat) (A : List Int) (w : World) (hv : VS w C c v B β) (hA : By A 20) : Ret Hvad.prog 210 #[.pointer (some ⟨C, 2435, none⟩), .agg (ic .u8 A)] w fun u w' => u = .bool (v.isGone A) ∧ Ext w w' := by
  have hAl := hA.1
  have hr0 := findA_range v A
  refine Ret_of_W Hvad.func210 rfl rfl ?_
  refine W_seq ?_
  refine W_region rfl ?_
  refine WO_box (.agg _) rfl ?_
  refine WO_p (PS_assign_bool rfl) ?_
  refine WO_nil ?_
  refine thn_normal ?_
  refine W_seq ?_
  refine W_region rfl ?_
  refine WO_p (PS_move_ptr rfl) ?_
  refine WO_loadA _ Hvad.isAgg25 Hvad.sizeOf25 rfl (Hb.h (by repeat (first | assumption | exact Hb.newY _ _ | refine Hb.alloc ?_ | refine Hb.drew ?_ | refine Hb.ext (by assumption) ?_ | exact Hb.setSameL (by first | omega | (simp only [size_alloc, size_setB, size_drew]; omega)) | exact Hb.setSame (by assumption) | refine Hb.set (by first | omega | (simp only [size_alloc, size_setB, size_drew]; omega)) ?_ ))) (by first | omega | assumption | rfl | decide | (simp only [size_ic, Value.cells]; omega) | simp) (Xt.h (by first | assumption | exact Xt.whole rfl rfl | exact Xt.whole rfl (by simp only [size_ic, Value.cells]; omega) | exact ⟨rfl⟩)) ?_
  refine WO_call Hvad.call75 (by rfl) (Ret.mono (findAcct_spec C c v B β A _ (hv.ext (by repeat (first | assumption | exact Ext.refl _ | refine Ext.alloc ?_ _ | refine Ext.drew ?_ | refine Ext.setB ?_ (by first | omega | (simp only [size_alloc, size_setB, size_drew]; omega)) _ | exact Ext.trans (by assumption) (by assumption) | refine Ext.trans ?_ (by assumption)))) hA) ?_)
  rintro _ w1 ⟨rfl, hE1⟩
  have hv1 := hv.ext (Ext.trans (by repeat (first | assumption | exact Ext.refl _ | refine Ext.alloc ?_ _ | refine Ext.drew ?_ | refine Ext.setB ?_ (by first | omega | (simp only [size_alloc, size_setB, size_drew]; omega)) _ | exact Ext.trans (by assumption) (by assumption) | refine Ext.trans ?_ (by assumption))) hE1)
  have hblk := hv1.blk
  have hsz1 := hE1.1
  simp only [size_alloc] at hsz1
  refine WO_p (PS_move_tuple rfl) ?_
  refine WO_p (PS_extract_int rfl rfl) ?_
  refine WO_p (PS_extract_int rfl rfl) ?_
  refine WO_p (PS_assign_int rfl) ?_
  refine WO_p (PS_assign_int rfl) ?_
  refine WO_nil ?_
  refine thn_normal ?_
  refine W_seq ?_
  refine W_region rfl ?_
  refine WO_p (PS_move_int rfl) ?_
  refine WO_p (PS_geq rfl rfl) ?_
  refine WO_p (PS_move_bool rfl) ?_
  refine WO_if (t := 15) rfl (fun hb3 => ?_) (fun hb3 => ?_)
  · have hb3p := hb3.h; simp only [al_ete, al_dfn, Bool.not_eq_true', Bool.not_eq_false', al_ne, Bool.not_not, al_nn] at hb3p
    have h0 : 0 ≤ (v.findA A).1 := by omega
    obtain ⟨x, hx, hxA⟩ := findA_some h0
    obtain ⟨b, cap, r, hab, hcap, hr, hrs, hrow, hda, hbd, hil, hty, f0, f1, f2, f3, f4, f5, f6⟩ := hv1.openA hx
    have hlx : x.bal.length = 4 := hty.2.2.1
    have hg := get_some h0 hx
    refine WO_guardT rfl rfl hb3.h ?_
    refine WO_p (PS_move_ptr rfl) ?_
    refine WO_guardT rfl rfl hb3.h ?_
    refine WO_p (PS_nilCheck rfl) ?_
    refine WO_guardT rfl rfl hb3.h ?_
    refine WO_p (PS_fieldAddr 0 Hvad.runUnderlying79 rfl Hvad.sizeOf70 rfl rfl) ?_
    refine WO_guardT rfl rfl hb3.h ?_
    refine WO_load (.slice _ _ _) Hvad.isAgg70 rfl (Hb.h (by repeat (first | assumption | exact Hb.newY _ _ | refine Hb.alloc ?_ | refine Hb.drew ?_ | refine Hb.ext (by assumption) ?_ | exact Hb.setSameL (by first | omega | (simp only [size_alloc, size_setB, size_drew]; omega)) | exact Hb.setSame (by assumption) | refine Hb.set (by first | omega | (simp only [size_alloc, size_setB, size_drew]; omega)) ?_ ))) (Ce.h (by first | assumption | exact ⟨rfl⟩)) ?_
    refine WO_guardT rfl rfl hb3.h ?_
    refine WO_p (PS_move_int rfl) ?_
    refine WO_guardT rfl rfl hb3.h ?_
    refine WO_p (PS_indexS Hvad.runUnderlying70 Hvad.sizeOf149 rfl rfl (by omega) (by omega)) ?_
    refine WO_guardT rfl rfl hb3.h ?_
    refine WO_p (PS_fieldAddr 28 Hvad.runUnderlying149 rfl Hvad.sizeOf4 rfl rfl) ?_
    refine WO_guardT rfl rfl hb3.h ?_
    refine WO_load (.bool _) Hvad.isAgg4 rfl (Hb.h (by repeat (first | assumption | exact Hb.newY _ _ | refine Hb.alloc ?_ | refine Hb.drew ?_ | refine Hb.ext (by assumption) ?_ | exact Hb.setSameL (by first | omega | (simp only [size_alloc, size_setB, size_drew]; omega)) | exact Hb.setSame (by assumption) | refine Hb.set (by first | omega | (simp only [size_alloc, size_setB, size_drew]; omega)) ?_ ))) (Ce.h (by first | assumption | exact ⟨rfl⟩)) ?_
    refine WO_p (PS_pickT rfl hb3.h rfl) ?_
    refine WO_p (PS_assign_bool rfl) ?_
    refine WO_nil ?_
    refine thn_normal ?_
    refine W_ret ?_
    refine bodyQ_ret1 Hvad.results210 rfl (.bool _) rfl ?_
    rw [V.isGone, hg]; exact ⟨rfl, (by repeat (first | assumption | exact Ext.refl _ | refine Ext.alloc ?_ _ | refine Ext.drew ?_ | refine Ext.setB ?_ (by first | omega | (simp only [size_alloc, size_setB, size_drew]; omega)) _ | refine Ext.trans ?_ (by assumption)))⟩
  · have hb3p := hb3.h; simp only [al_ete, al_dfn, Bool.not_eq_true', Bool.not_eq_false', al_ne, Bool.not_not, al_nn] at hb3p
    have h0 : ¬ 0 ≤ (v.findA A).1 := by omega
    have hg := get_none h0
    refine WO_guardF rfl rfl hb3.h ?_
    refine WO_guardF rfl rfl hb3.h ?_
    refine WO_guardF rfl rfl hb3.h ?_
    refine WO_guardF rfl rfl hb3.h ?_
    refine WO_guardF rfl rfl hb3.h ?_
    refine WO_guardF rfl rfl hb3.h ?_
    refine WO_guardF rfl rfl hb3.h ?_
    refine WO_guardF rfl rfl hb3.h ?_
    refine WO_p (PS_pickF rfl hb3.h rfl) ?_
    refine WO_p (PS_assign_bool rfl) ?_
    refine WO_nil ?_
    refine thn_normal ?_
    refine W_ret ?_
    refine bodyQ_ret1 Hvad.results210 rfl (.bool _) rfl ?_
    rw [V.isGone, hg]; exact ⟨rfl, (by repeat (first | assumption | exact Ext.refl _ | refine Ext.alloc ?_ _ | refine Ext.drew ?_ | refine Ext.setB ?_ (by first | omega | (simp only [size_alloc, size_setB, size_drew]; omega)) _ | refine Ext.trans ?_ (by assumption)))⟩

set_option maxRecDepth 10000 in
theorem peekS_spec (C : Nat) (c : Array Value) (v : V) (B : VB) (β : Option Nat) (A K : List Int) (w : World) (hv : VS w C c v B β) (hA : By A 20) (hK : Wd K) : Ret Hvad.prog 126 #[.pointer (some ⟨C, 2435, none⟩), .agg (ic .u8 A), .agg (ic .u64 K)] w fun u w' => u = .int .i32 (v.peekS A K) ∧ Ext w w' := by
  have hAl := hA.1
  have hr0 := findA_range v A
  have hKl := hK.1
  have hfi := findA_i32 hv A
  refine Ret_of_W Hvad.func126 rfl rfl ?_
  refine W_seq ?_
  refine W_region rfl ?_
  refine WO_box (.agg _) rfl ?_
  refine WO_box (.agg _) rfl ?_
  refine WO_p (PS_assign_int rfl) ?_
  refine WO_nil ?_
  refine thn_normal ?_
  refine W_seq ?_
  refine W_region rfl ?_
  refine WO_p (PS_move_ptr rfl) ?_
  refine WO_loadA _ Hvad.isAgg25 Hvad.sizeOf25 rfl (Hb.h (by repeat (first | assumption | exact Hb.newY _ _ | refine Hb.alloc ?_ | refine Hb.drew ?_ | refine Hb.ext (by assumption) ?_ | exact Hb.setSameL (by first | omega | (simp only [size_alloc, size_setB, size_drew]; omega)) | exact Hb.setSame (by assumption) | refine Hb.set (by first | omega | (simp only [size_alloc, size_setB, size_drew]; omega)) ?_ ))) (by first | omega | assumption | rfl | decide | (simp only [size_ic, Value.cells]; omega) | simp) (Xt.h (by first | assumption | exact Xt.whole rfl rfl | exact Xt.whole rfl (by simp only [size_ic, Value.cells]; omega) | exact ⟨rfl⟩)) ?_
  refine WO_call Hvad.call75 (by rfl) (Ret.mono (findAcct_spec C c v B β A _ (hv.ext (by repeat (first | assumption | exact Ext.refl _ | refine Ext.alloc ?_ _ | refine Ext.drew ?_ | refine Ext.setB ?_ (by first | omega | (simp only [size_alloc, size_setB, size_drew]; omega)) _ | exact Ext.trans (by assumption) (by assumption) | refine Ext.trans ?_ (by assumption)))) hA) ?_)
  rintro _ w1 ⟨rfl, hE1⟩
  have hv1 := hv.ext (Ext.trans (by repeat (first | assumption | exact Ext.refl _ | refine Ext.alloc ?_ _ | refine Ext.drew ?_ | refine Ext.setB ?_ (by first | omega | (simp only [size_alloc, size_setB, size_drew]; omega)) _ | exact Ext.trans (by assumption) (by assumption) | refine Ext.trans ?_ (by assumption))) hE1)
  have hblk := hv1.blk
  have hsz1 := hE1.1
  simp only [size_alloc] at hsz1
  refine WO_p (PS_move_tuple rfl) ?_
  refine WO_p (PS_extract_int rfl rfl) ?_
  refine WO_p (PS_extract_int rfl rfl) ?_
  refine WO_p (PS_assign_int rfl) ?_
  refine WO_p (PS_assign_int rfl) ?_
  refine WO_nil ?_
  refine thn_normal ?_
  refine W_seq ?_
  refine W_seq ?_
  refine W_region rfl ?_
  refine WO_p (PS_move_int rfl) ?_
  refine WO_p (PS_lss rfl rfl) ?_
  refine WO_nil ?_
  refine thn_normal ?_
  refine W_if rfl (fun hb3 => ?_) (fun hb3 => ?_)
  · have hb3p := hb3.h; simp only [al_ete, al_dfn, Bool.not_eq_true', Bool.not_eq_false', al_ne, Bool.not_not, al_nn] at hb3p
    have h16 := hb3p
    refine W_seq ?_
    refine W_region rfl ?_
    refine WO_p (PS_assign_int rfl) ?_
    refine WO_nil ?_
    refine thn_normal ?_
    refine W_ret ?_
    refine thn_ret ?_
    refine bodyQ_ret1 Hvad.results126 rfl (.int _ _) rfl ?_
    rw [V.peekS]; first | (rw [if_pos h16]; exact ⟨rfl, (by repeat (first | assumption | exact Ext.refl _ | refine Ext.alloc ?_ _ | refine Ext.drew ?_ | refine Ext.setB ?_ (by first | omega | (simp only [size_alloc, size_setB, size_drew]; omega)) _ | refine Ext.trans ?_ (by assumption)))⟩) | (rw [if_neg h16]; exact ⟨rfl, (by repeat (first | assumption | exact Ext.refl _ | refine Ext.alloc ?_ _ | refine Ext.drew ?_ | refine Ext.setB ?_ (by first | omega | (simp only [size_alloc, size_setB, size_drew]; omega)) _ | refine Ext.trans ?_ (by assumption)))⟩)
  · have hb3p := hb3.h; simp only [al_ete, al_dfn, Bool.not_eq_true', Bool.not_eq_false', al_ne, Bool.not_not, al_nn] at hb3p
    have h16 := hb3p
    refine W_skip ?_
    refine thn_normal ?_
    refine W_seq ?_
    refine W_region rfl ?_
    refine WO_p (PS_move_ptr rfl) ?_
    refine WO_p (PS_move_int rfl) ?_
    refine WO_loadA _ Hvad.isAgg59 Hvad.sizeOf59 rfl (Hb.h (by repeat (first | assumption | exact Hb.newY _ _ | refine Hb.alloc ?_ | refine Hb.drew ?_ | refine Hb.ext (by assumption) ?_ | exact Hb.setSameL (by first | omega | (simp only [size_alloc, size_setB, size_drew]; omega)) | exact Hb.setSame (by assumption) | refine Hb.set (by first | omega | (simp only [size_alloc, size_setB, size_drew]; omega)) ?_ ))) (by first | omega | assumption | rfl | decide | (simp only [size_ic, Value.cells]; omega) | simp) (Xt.h (by first | assumption | exact Xt.whole rfl rfl | exact Xt.whole rfl (by simp only [size_ic, Value.cells]; omega) | exact ⟨rfl⟩)) ?_
    refine WO_call Hvad.call115 (by rfl) (Ret.mono (findSlot_spec C c v B β _ K _ hv1 hfi hK) ?_)
    rintro _ w2 ⟨rfl, hE2⟩
    refine WO_p (PS_move_tuple rfl) ?_
    refine WO_p (PS_extract_int rfl rfl) ?_
    refine WO_p (PS_extract_int rfl rfl) ?_
    refine WO_p (PS_assign_int rfl) ?_
    refine WO_p (PS_assign_int rfl) ?_
    refine WO_nil ?_
    refine thn_normal ?_
    refine W_seq ?_
    refine W_region rfl ?_
    refine WO_p (PS_move_int rfl) ?_
    refine WO_p (PS_assign_int rfl) ?_
    refine WO_nil ?_
    refine thn_normal ?_
    refine W_ret ?_
    refine bodyQ_ret1 Hvad.results126 rfl (.int _ _) rfl ?_
    rw [V.peekS]; first | (rw [if_pos h16]; exact ⟨rfl, (by repeat (first | assumption | exact Ext.refl _ | refine Ext.alloc ?_ _ | refine Ext.drew ?_ | refine Ext.setB ?_ (by first | omega | (simp only [size_alloc, size_setB, size_drew]; omega)) _ | refine Ext.trans ?_ (by assumption)))⟩) | (rw [if_neg h16]; exact ⟨rfl, (by repeat (first | assumption | exact Ext.refl _ | refine Ext.alloc ?_ _ | refine Ext.drew ?_ | refine Ext.setB ?_ (by first | omega | (simp only [size_alloc, size_setB, size_drew]; omega)) _ | refine Ext.trans ?_ (by assumption)))⟩)

set_option maxRecDepth 10000 in
theorem isWarmS_spec (C : Nat) (c : Array Value) (v : V) (B : VB) (β : Option Nat) (A K : List Int) (w : World) (hv : VS w C c v B β) (hA : By A 20) (hK : Wd K) : Ret Hvad.prog 78 #[.pointer (some ⟨C, 2435, none⟩), .agg (ic .u8 A), .agg (ic .u64 K)] w fun u w' => u = .bool (v.isWarmS A K) ∧ Ext w w' := by
  have hAl := hA.1
  have hKl := hK.1
  have hr0 := peekS_range v A K
  refine Ret_of_W Hvad.func78 rfl rfl ?_
  refine W_seq ?_
  refine W_region rfl ?_
  refine WO_box (.agg _) rfl ?_
  refine WO_box (.agg _) rfl ?_
  refine WO_p (PS_assign_bool rfl) ?_
  refine WO_nil ?_
  refine thn_normal ?_
  refine W_seq ?_
  refine W_region rfl ?_
  refine WO_p (PS_move_ptr rfl) ?_
  refine WO_loadA _ Hvad.isAgg25 Hvad.sizeOf25 rfl (Hb.h (by repeat (first | assumption | exact Hb.newY _ _ | refine Hb.alloc ?_ | refine Hb.drew ?_ | refine Hb.ext (by assumption) ?_ | exact Hb.setSameL (by first | omega | (simp only [size_alloc, size_setB, size_drew]; omega)) | exact Hb.setSame (by assumption) | refine Hb.set (by first | omega | (simp only [size_alloc, size_setB, size_drew]; omega)) ?_ ))) (by first | omega | assumption | rfl | decide | (simp only [size_ic, Value.cells]; omega) | simp) (Xt.h (by first | assumption | exact Xt.whole rfl rfl | exact Xt.whole rfl (by simp only [size_ic, Value.cells]; omega) | exact ⟨rfl⟩)) ?_
  refine WO_loadA _ Hvad.isAgg59 Hvad.sizeOf59 rfl (Hb.h (by repeat (first | assumption | exact Hb.newY _ _ | refine Hb.alloc ?_ | refine Hb.drew ?_ | refine Hb.ext (by assumption) ?_ | exact Hb.setSameL (by first | omega | (simp only [size_alloc, size_setB, size_drew]; omega)) | exact Hb.setSame (by assumption) | refine Hb.set (by first | omega | (simp only [size_alloc, size_setB, size_drew]; omega)) ?_ ))) (by first | omega | assumption | rfl | decide | (simp only [size_ic, Value.cells]; omega) | simp) (Xt.h (by first | assumption | exact Xt.whole rfl rfl | exact Xt.whole rfl (by simp only [size_ic, Value.cells]; omega) | exact ⟨rfl⟩)) ?_
  refine WO_call Hvad.call126 (by rfl) (Ret.mono (peekS_spec C c v B β A K _ (hv.ext (by repeat (first | assumption | exact Ext.refl _ | refine Ext.alloc ?_ _ | refine Ext.drew ?_ | refine Ext.setB ?_ (by first | omega | (simp only [size_alloc, size_setB, size_drew]; omega)) _ | exact Ext.trans (by assumption) (by assumption) | refine Ext.trans ?_ (by assumption)))) hA hK) ?_)
  rintro _ w1 ⟨rfl, hE1⟩
  have hv1 := hv.ext (Ext.trans (by repeat (first | assumption | exact Ext.refl _ | refine Ext.alloc ?_ _ | refine Ext.drew ?_ | refine Ext.setB ?_ (by first | omega | (simp only [size_alloc, size_setB, size_drew]; omega)) _ | exact Ext.trans (by assumption) (by assumption) | refine Ext.trans ?_ (by assumption))) hE1)
  have hblk := hv1.blk
  have hsz1 := hE1.1
  simp only [size_alloc] at hsz1
  refine WO_p (PS_assign_int rfl) ?_
  refine WO_nil ?_
  refine thn_normal ?_
  refine W_seq ?_
  refine W_region rfl ?_
  refine WO_p (PS_move_int rfl) ?_
  refine WO_p (PS_geq rfl rfl) ?_
  refine WO_p (PS_move_bool rfl) ?_
  refine WO_if (t := 14) rfl (fun hb3 => ?_) (fun hb3 => ?_)
  · have hb3p := hb3.h; simp only [al_ete, al_dfn, Bool.not_eq_true', Bool.not_eq_false', al_ne, Bool.not_not, al_nn] at hb3p
    have h0 : 0 ≤ v.peekS A K := by omega
    obtain ⟨x, hx, hxA, hxK⟩ := peekS_some h0
    obtain ⟨b, cap, r, hab, hcap, hr, hrs, hrow, hda, hbd, hil, hty, f0, f1, f2, f3, f4⟩ := hv1.openS hx
    have hlv : x.val.length = 4 := hty.2.2.1.1
    have hlo : x.orig.length = 4 := hty.2.2.2.1
    have hg := getS_some h0 hx
    refine WO_guardT rfl rfl hb3.h ?_
    refine WO_p (PS_move_ptr rfl) ?_
    refine WO_guardT rfl rfl hb3.h ?_
    refine WO_p (PS_nilCheck rfl) ?_
    refine WO_guardT rfl rfl hb3.h ?_
    refine WO_p (PS_fieldAddr 1 Hvad.runUnderlying79 rfl Hvad.sizeOf71 rfl rfl) ?_
    refine WO_guardT rfl rfl hb3.h ?_
    refine WO_load (.slice _ _ _) Hvad.isAgg71 rfl (Hb.h (by repeat (first | assumption | exact Hb.newY _ _ | refine Hb.alloc ?_ | refine Hb.drew ?_ | refine Hb.ext (by assumption) ?_ | exact Hb.setSameL (by first | omega | (simp only [size_alloc, size_setB, size_drew]; omega)) | exact Hb.setSame (by assumption) | refine Hb.set (by first | omega | (simp only [size_alloc, size_setB, size_drew]; omega)) ?_ ))) (Ce.h (by first | assumption | exact ⟨rfl⟩)) ?_
    refine WO_guardT rfl rfl hb3.h ?_
    refine WO_p (PS_move_int rfl) ?_
    refine WO_guardT rfl rfl hb3.h ?_
    refine WO_p (PS_indexS Hvad.runUnderlying71 Hvad.sizeOf152 rfl rfl (by omega) (by omega)) ?_
    refine WO_guardT rfl rfl hb3.h ?_
    refine WO_p (PS_fieldAddr 13 Hvad.runUnderlying152 rfl Hvad.sizeOf4 rfl rfl) ?_
    refine WO_guardT rfl rfl hb3.h ?_
    refine WO_load (.bool _) Hvad.isAgg4 rfl (Hb.h (by repeat (first | assumption | exact Hb.newY _ _ | refine Hb.alloc ?_ | refine Hb.drew ?_ | refine Hb.ext (by assumption) ?_ | exact Hb.setSameL (by first | omega | (simp only [size_alloc, size_setB, size_drew]; omega)) | exact Hb.setSame (by assumption) | refine Hb.set (by first | omega | (simp only [size_alloc, size_setB, size_drew]; omega)) ?_ ))) (Ce.h (by first | assumption | exact ⟨rfl⟩)) ?_
    refine WO_p (PS_pickT rfl hb3.h rfl) ?_
    refine WO_p (PS_assign_bool rfl) ?_
    refine WO_nil ?_
    refine thn_normal ?_
    refine W_ret ?_
    refine bodyQ_ret1 Hvad.results78 rfl (.bool _) rfl ?_
    rw [V.isWarmS, hg]; exact ⟨rfl, (by repeat (first | assumption | exact Ext.refl _ | refine Ext.alloc ?_ _ | refine Ext.drew ?_ | refine Ext.setB ?_ (by first | omega | (simp only [size_alloc, size_setB, size_drew]; omega)) _ | refine Ext.trans ?_ (by assumption)))⟩
  · have hb3p := hb3.h; simp only [al_ete, al_dfn, Bool.not_eq_true', Bool.not_eq_false', al_ne, Bool.not_not, al_nn] at hb3p
    have h0 : ¬ 0 ≤ v.peekS A K := by omega
    have hg := getS_none h0
    refine WO_guardF rfl rfl hb3.h ?_
    refine WO_guardF rfl rfl hb3.h ?_
    refine WO_guardF rfl rfl hb3.h ?_
    refine WO_guardF rfl rfl hb3.h ?_
    refine WO_guardF rfl rfl hb3.h ?_
    refine WO_guardF rfl rfl hb3.h ?_
    refine WO_guardF rfl rfl hb3.h ?_
    refine WO_guardF rfl rfl hb3.h ?_
    refine WO_p (PS_pickF rfl hb3.h rfl) ?_
    refine WO_p (PS_assign_bool rfl) ?_
    refine WO_nil ?_
    refine thn_normal ?_
    refine W_ret ?_
    refine bodyQ_ret1 Hvad.results78 rfl (.bool _) rfl ?_
    rw [V.isWarmS, hg]; exact ⟨rfl, (by repeat (first | assumption | exact Ext.refl _ | refine Ext.alloc ?_ _ | refine Ext.drew ?_ | refine Ext.setB ?_ (by first | omega | (simp only [size_alloc, size_setB, size_drew]; omega)) _ | refine Ext.trans ?_ (by assumption)))⟩

set_option maxRecDepth 10000 in
theorem peek_spec (C : Nat) (c : Array Value) (v : V) (B : VB) (β : Option Nat) (A K : List Int) (w : World) (hv : VS w C c v B β) (hA : By A 20) (hK : Wd K) : Ret Hvad.prog 201 #[.pointer (some ⟨C, 2435, none⟩), .agg (ic .u8 A), .agg (ic .u64 K)] w fun u w' => u = .tuple #[.agg (ic .u64 (v.sval A K)), .agg (ic .u64 (v.sorig A K)), .bool (v.isWarmS A K)] ∧ Ext w w' := by
  have hAl := hA.1
  have hKl := hK.1
  have hr0 := peekS_range v A K
  refine Ret_of_W Hvad.func201 rfl rfl ?_
  refine W_seq ?_
  refine W_region rfl ?_
  refine WO_box (.agg _) rfl ?_
  refine WO_box (.agg _) rfl ?_
  refine WO_alloc Hvad.zeroValue59 ?_
  refine WO_alloc Hvad.zeroValue59 ?_
  refine WO_p (PS_assign_bool rfl) ?_
  refine WO_nil ?_
  refine thn_normal ?_
  refine W_seq ?_
  refine W_seq ?_
  refine W_region rfl ?_
  refine WO_p (PS_move_ptr rfl) ?_
  refine WO_loadA _ Hvad.isAgg25 Hvad.sizeOf25 rfl (Hb.h (by repeat (first | assumption | exact Hb.newY _ _ | refine Hb.alloc ?_ | refine Hb.drew ?_ | refine Hb.ext (by assumption) ?_ | exact Hb.setSameL (by first | omega | (simp only [size_alloc, size_setB, size_drew]; omega)) | exact Hb.setSame (by assumption) | refine Hb.set (by first | omega | (simp only [size_alloc, size_setB, size_drew]; omega)) ?_ ))) (by first | omega | assumption | rfl | decide | (simp only [size_ic, Value.cells]; omega) | simp) (Xt.h (by first | assumption | exact Xt.whole rfl rfl | exact Xt.whole rfl (by simp only [size_ic, Value.cells]; omega) | exact ⟨rfl⟩)) ?_
  refine WO_loadA _ Hvad.isAgg59 Hvad.sizeOf59 rfl (Hb.h (by repeat (first | assumption | exact Hb.newY _ _ | refine Hb.alloc ?_ | refine Hb.drew ?_ | refine Hb.ext (by assumption) ?_ | exact Hb.setSameL (by first | omega | (simp only [size_alloc, size_setB, size_drew]; omega)) | exact Hb.setSame (by assumption) | refine Hb.set (by first | omega | (simp only [size_alloc, size_setB, size_drew]; omega)) ?_ ))) (by first | omega | assumption | rfl | decide | (simp only [size_ic, Value.cells]; omega) | simp) (Xt.h (by first | assumption | exact Xt.whole rfl rfl | exact Xt.whole rfl (by simp only [size_ic, Value.cells]; omega) | exact ⟨rfl⟩)) ?_
  refine WO_call Hvad.call126 (by rfl) (Ret.mono (peekS_spec C c v B β A K _ (hv.ext (by repeat (first | assumption | exact Ext.refl _ | refine Ext.alloc ?_ _ | refine Ext.drew ?_ | refine Ext.setB ?_ (by first | omega | (simp only [size_alloc, size_setB, size_drew]; omega)) _ | exact Ext.trans (by assumption) (by assumption) | refine Ext.trans ?_ (by assumption)))) hA hK) ?_)
  rintro _ w1 ⟨rfl, hE1⟩
  have hv1 := hv.ext (Ext.trans (by repeat (first | assumption | exact Ext.refl _ | refine Ext.alloc ?_ _ | refine Ext.drew ?_ | refine Ext.setB ?_ (by first | omega | (simp only [size_alloc, size_setB, size_drew]; omega)) _ | exact Ext.trans (by assumption) (by assumption) | refine Ext.trans ?_ (by assumption))) hE1)
  have hblk := hv1.blk
  have hsz1 := hE1.1
  simp only [size_alloc] at hsz1
  refine WO_p (PS_assign_int rfl) ?_
  refine WO_nil ?_
  refine thn_normal ?_
  refine W_seq ?_
  refine W_region rfl ?_
  refine WO_p (PS_move_int rfl) ?_
  refine WO_p (PS_geq rfl rfl) ?_
  refine WO_nil ?_
  refine thn_normal ?_
  refine W_if rfl (fun hb3 => ?_) (fun hb3 => ?_)
  · have hb3p := hb3.h; simp only [al_ete, al_dfn, Bool.not_eq_true', Bool.not_eq_false', al_ne, Bool.not_not, al_nn] at hb3p
    have h0 : 0 ≤ v.peekS A K := by omega
    obtain ⟨x, hx, hxA, hxK⟩ := peekS_some h0
    obtain ⟨b, cap, r, hab, hcap, hr, hrs, hrow, hda, hbd, hil, hty, f0, f1, f2, f3, f4⟩ := hv.openS hx
    have hlv : x.val.length = 4 := hty.2.2.1.1
    have hlo : x.orig.length = 4 := hty.2.2.2.1
    have hg := getS_some h0 hx
    refine W_seq ?_
    refine W_region rfl ?_
    refine WO_p (PS_move_ptr rfl) ?_
    refine WO_p (PS_nilCheck rfl) ?_
    refine WO_p (PS_fieldAddr 1 Hvad.runUnderlying79 rfl Hvad.sizeOf71 rfl rfl) ?_
    refine WO_load (.slice _ _ _) Hvad.isAgg71 rfl (Hb.h (by repeat (first | assumption | exact Hb.newY _ _ | refine Hb.alloc ?_ | refine Hb.drew ?_ | refine Hb.ext (by assumption) ?_ | exact Hb.setSameL (by first | omega | (simp only [size_alloc, size_setB, size_drew]; omega)) | exact Hb.setSame (by assumption) | refine Hb.set (by first | omega | (simp only [size_alloc, size_setB, size_drew]; omega)) ?_ ))) (Ce.h (by first | assumption | exact ⟨rfl⟩)) ?_
    refine WO_p (PS_move_int rfl) ?_
    refine WO_p (PS_indexS Hvad.runUnderlying71 Hvad.sizeOf152 rfl rfl (by omega) (by omega)) ?_
    refine WO_p (PS_assign_ptr rfl) ?_
    refine WO_nil ?_
    refine thn_normal ?_
    refine W_seq ?_
    refine W_drawT [false, false, false, false, false, false, false, false, false, false, false, false, true, true, false] (Ext w) hmix (by kernel_rfl) rfl (by repeat (first | assumption | exact Ext.refl _ | refine Ext.alloc ?_ _ | refine Ext.drew ?_ | refine Ext.setB ?_ (by first | omega | (simp only [size_alloc, size_setB, size_drew]; omega)) _ | refine Ext.trans ?_ (by assumption))) ?_
    refine WH_p (PS_move_ptr rfl) rfl ?_
    refine WH_p (PS_nilCheck rfl) rfl ?_
    refine WH_p (PS_fieldAddr 5 Hvad.runUnderlying152 rfl Hvad.sizeOf59 rfl rfl) rfl ?_
    refine WH_loadA _ Hvad.isAgg59 Hvad.sizeOf59 rfl (Hb.h (by repeat (first | assumption | exact Hb.newY _ _ | refine Hb.alloc ?_ | refine Hb.drew ?_ | refine Hb.ext (by assumption) ?_ | exact Hb.setSameL (by first | omega | (simp only [size_alloc, size_setB, size_drew]; omega)) | exact Hb.setSame (by assumption) | refine Hb.set (by first | omega | (simp only [size_alloc, size_setB, size_drew]; omega)) ?_ ))) (by first | omega | assumption | rfl | decide | (simp only [size_ic, Value.cells]; omega) | simp) (Xt.h (by first | assumption | exact Xt.whole rfl rfl | exact Xt.whole rfl (by simp only [size_ic, Value.cells]; omega) | exact ⟨rfl⟩)) ?_
    refine WH_p (PS_move_ptr rfl) rfl ?_
    refine WH_p (PS_nilCheck rfl) rfl ?_
    refine WH_p (PS_fieldAddr 9 Hvad.runUnderlying152 rfl Hvad.sizeOf59 rfl rfl) rfl ?_
    refine WH_loadA _ Hvad.isAgg59 Hvad.sizeOf59 rfl (Hb.h (by repeat (first | assumption | exact Hb.newY _ _ | refine Hb.alloc ?_ | refine Hb.drew ?_ | refine Hb.ext (by assumption) ?_ | exact Hb.setSameL (by first | omega | (simp only [size_alloc, size_setB, size_drew]; omega)) | exact Hb.setSame (by assumption) | refine Hb.set (by first | omega | (simp only [size_alloc, size_setB, size_drew]; omega)) ?_ ))) (by first | omega | assumption | rfl | decide | (simp only [size_ic, Value.cells]; omega) | simp) (Xt.h (by first | assumption | exact Xt.whole rfl rfl | exact Xt.whole rfl (by simp only [size_ic, Value.cells]; omega) | exact ⟨rfl⟩)) ?_
    refine WH_p (PS_move_ptr rfl) rfl ?_
    refine WH_p (PS_nilCheck rfl) rfl ?_
    refine WH_p (PS_fieldAddr 13 Hvad.runUnderlying152 rfl Hvad.sizeOf4 rfl rfl) rfl ?_
    refine WH_load (.bool _) Hvad.isAgg4 rfl (Hb.h (by repeat (first | assumption | exact Hb.newY _ _ | refine Hb.alloc ?_ | refine Hb.drew ?_ | refine Hb.ext (by assumption) ?_ | exact Hb.setSameL (by first | omega | (simp only [size_alloc, size_setB, size_drew]; omega)) | exact Hb.setSame (by assumption) | refine Hb.set (by first | omega | (simp only [size_alloc, size_setB, size_drew]; omega)) ?_ ))) (Ce.h (by first | assumption | exact ⟨rfl⟩)) ?_
    first | refine WH_storeW Hvad.sizeOf59 rfl (v := .agg _) rfl (Hb.h (by repeat (first | assumption | exact Hb.newY _ _ | refine Hb.alloc ?_ | refine Hb.drew ?_ | refine Hb.ext (by assumption) ?_ | exact Hb.setSameL (by first | omega | (simp only [size_alloc, size_setB, size_drew]; omega)) | exact Hb.setSame (by assumption) | refine Hb.set (by first | omega | (simp only [size_alloc, size_setB, size_drew]; omega)) ?_ ))) rfl (by first | omega | assumption | rfl | decide | (simp only [size_ic, Value.cells]; omega) | simp) (by first | omega | assumption | rfl | decide | (simp only [size_ic, Value.cells]; omega) | simp) (by first | exact oneCell_ic | assumption) (fun _ => (by repeat (first | assumption | exact Ext.refl _ | refine Ext.alloc ?_ _ | refine Ext.drew ?_ | refine Ext.setB ?_ (by first | omega | (simp only [size_alloc, size_setB, size_drew]; omega)) _ | exact Ext.trans (by assumption) (by assumption) | refine Ext.trans ?_ (by assumption)))) ?_ | refine WH_store Hvad.sizeOf59 rfl (v := .agg _) rfl (Hb.h (by repeat (first | assumption | exact Hb.newY _ _ | refine Hb.alloc ?_ | refine Hb.drew ?_ | refine Hb.ext (by assumption) ?_ | exact Hb.setSameL (by first | omega | (simp only [size_alloc, size_setB, size_drew]; omega)) | exact Hb.setSame (by assumption) | refine Hb.set (by first | omega | (simp only [size_alloc, size_setB, size_drew]; omega)) ?_ ))) (by first | omega | assumption | rfl | decide | (simp only [size_ic, Value.cells]; omega) | simp) (by first | omega | assumption | rfl | decide | (simp only [size_ic, Value.cells]; omega) | simp) (by first | exact oneCell_ic | assumption) (fun _ => (by repeat (first | assumption | exact Ext.refl _ | refine Ext.alloc ?_ _ | refine Ext.drew ?_ | refine Ext.setB ?_ (by first | omega | (simp only [size_alloc, size_setB, size_drew]; omega)) _ | exact Ext.trans (by assumption) (by assumption) | refine Ext.trans ?_ (by assumption)))) ?_
    first | refine WH_storeW Hvad.sizeOf59 rfl (v := .agg _) rfl (Hb.h (by repeat (first | assumption | exact Hb.newY _ _ | refine Hb.alloc ?_ | refine Hb.drew ?_ | refine Hb.ext (by assumption) ?_ | exact Hb.setSameL (by first | omega | (simp only [size_alloc, size_setB, size_drew]; omega)) | exact Hb.setSame (by assumption) | refine Hb.set (by first | omega | (simp only [size_alloc, size_setB, size_drew]; omega)) ?_ ))) rfl (by first | omega | assumption | rfl | decide | (simp only [size_ic, Value.cells]; omega) | simp) (by first | omega | assumption | rfl | decide | (simp only [size_ic, Value.cells]; omega) | simp) (by first | exact oneCell_ic | assumption) (fun _ => (by repeat (first | assumption | exact Ext.refl _ | refine Ext.alloc ?_ _ | refine Ext.drew ?_ | refine Ext.setB ?_ (by first | omega | (simp only [size_alloc, size_setB, size_drew]; omega)) _ | exact Ext.trans (by assumption) (by assumption) | refine Ext.trans ?_ (by assumption)))) ?_ | refine WH_store Hvad.sizeOf59 rfl (v := .agg _) rfl (Hb.h (by repeat (first | assumption | exact Hb.newY _ _ | refine Hb.alloc ?_ | refine Hb.drew ?_ | refine Hb.ext (by assumption) ?_ | exact Hb.setSameL (by first | omega | (simp only [size_alloc, size_setB, size_drew]; omega)) | exact Hb.setSame (by assumption) | refine Hb.set (by first | omega | (simp only [size_alloc, size_setB, size_drew]; omega)) ?_ ))) (by first | omega | assumption | rfl | decide | (simp only [size_ic, Value.cells]; omega) | simp) (by first | omega | assumption | rfl | decide | (simp only [size_ic, Value.cells]; omega) | simp) (by first | exact oneCell_ic | assumption) (fun _ => (by repeat (first | assumption | exact Ext.refl _ | refine Ext.alloc ?_ _ | refine Ext.drew ?_ | refine Ext.setB ?_ (by first | omega | (simp only [size_alloc, size_setB, size_drew]; omega)) _ | exact Ext.trans (by assumption) (by assumption) | refine Ext.trans ?_ (by assumption)))) ?_
    refine WH_p (PS_assign_bool rfl) rfl ?_
    refine WH_nil ?_
    refine thn_normal ?_
    refine W_ret ?_
    refine thn_ret ?_
    refine bodyQ_cell2T (.bool _) Hvad.results201 rfl rfl rfl Hvad.isAgg59 Hvad.sizeOf59 Hvad.isAgg59 Hvad.sizeOf59 rfl (Hb.h (by repeat (first | assumption | exact Hb.newY _ _ | refine Hb.alloc ?_ | refine Hb.drew ?_ | refine Hb.ext (by assumption) ?_ | exact Hb.setSameL (by first | omega | (simp only [size_alloc, size_setB, size_drew]; omega)) | exact Hb.setSame (by assumption) | refine Hb.set (by first | omega | (simp only [size_alloc, size_setB, size_drew]; omega)) ?_ ))) (by first | omega | assumption | rfl | decide | (simp only [size_ic, Value.cells]; omega) | simp) rfl (Hb.h (by repeat (first | assumption | exact Hb.newY _ _ | refine Hb.alloc ?_ | refine Hb.drew ?_ | refine Hb.ext (by assumption) ?_ | exact Hb.setSameL (by first | omega | (simp only [size_alloc, size_setB, size_drew]; omega)) | exact Hb.setSame (by assumption) | refine Hb.set (by first | omega | (simp only [size_alloc, size_setB, size_drew]; omega)) ?_ ))) (by first | omega | assumption | rfl | decide | (simp only [size_ic, Value.cells]; omega) | simp) rfl ?_
    rw [V.isWarmS, V.sval, V.sorig, hg]; exact ⟨rfl, (by repeat (first | assumption | exact Ext.refl _ | refine Ext.alloc ?_ _ | refine Ext.drew ?_ | refine Ext.setB ?_ (by first | omega | (simp only [size_alloc, size_setB, size_drew]; omega)) _ | refine Ext.trans ?_ (by assumption)))⟩
  · have hb3p := hb3.h; simp only [al_ete, al_dfn, Bool.not_eq_true', Bool.not_eq_false', al_ne, Bool.not_not, al_nn] at hb3p
    have h0 : ¬ 0 ≤ v.peekS A K := by omega
    have hg := getS_none h0
    refine W_skip ?_
    refine thn_normal ?_
    refine W_seq ?_
    refine W_region rfl ?_
    refine WO_p (PS_buildI (k := .u64) (zs := [0, 0, 0, 0]) (ps := []) (L := [0, 0, 0, 0]) Hvad.zeroValue59 Hvad.runUnderlying59 Hvad.sizeOf26 rfl rfl rfl rfl) ?_
    refine WO_p (PS_buildI (k := .u64) (zs := [0, 0, 0, 0]) (ps := []) (L := [0, 0, 0, 0]) Hvad.zeroValue59 Hvad.runUnderlying59 Hvad.sizeOf26 rfl rfl rfl rfl) ?_
    first | refine WO_storeW Hvad.sizeOf59 rfl (v := .agg _) rfl (Hb.h (by repeat (first | assumption | exact Hb.newY _ _ | refine Hb.alloc ?_ | refine Hb.drew ?_ | refine Hb.ext (by assumption) ?_ | exact Hb.setSameL (by first | omega | (simp only [size_alloc, size_setB, size_drew]; omega)) | exact Hb.setSame (by assumption) | refine Hb.set (by first | omega | (simp only [size_alloc, size_setB, size_drew]; omega)) ?_ ))) rfl (by first | omega | assumption | rfl | decide | (simp only [size_ic, Value.cells]; omega) | simp) (by first | omega | assumption | rfl | decide | (simp only [size_ic, Value.cells]; omega) | simp) (by first | exact oneCell_ic | assumption) ?_ | refine WO_store Hvad.sizeOf59 rfl (v := .agg _) rfl (Hb.h (by repeat (first | assumption | exact Hb.newY _ _ | refine Hb.alloc ?_ | refine Hb.drew ?_ | refine Hb.ext (by assumption) ?_ | exact Hb.setSameL (by first | omega | (simp only [size_alloc, size_setB, size_drew]; omega)) | exact Hb.setSame (by assumption) | refine Hb.set (by first | omega | (simp only [size_alloc, size_setB, size_drew]; omega)) ?_ ))) (by first | omega | assumption | rfl | decide | (simp only [size_ic, Value.cells]; omega) | simp) (by first | omega | assumption | rfl | decide | (simp only [size_ic, Value.cells]; omega) | simp) (by first | exact oneCell_ic | assumption) ?_
    first | refine WO_storeW Hvad.sizeOf59 rfl (v := .agg _) rfl (Hb.h (by repeat (first | assumption | exact Hb.newY _ _ | refine Hb.alloc ?_ | refine Hb.drew ?_ | refine Hb.ext (by assumption) ?_ | exact Hb.setSameL (by first | omega | (simp only [size_alloc, size_setB, size_drew]; omega)) | exact Hb.setSame (by assumption) | refine Hb.set (by first | omega | (simp only [size_alloc, size_setB, size_drew]; omega)) ?_ ))) rfl (by first | omega | assumption | rfl | decide | (simp only [size_ic, Value.cells]; omega) | simp) (by first | omega | assumption | rfl | decide | (simp only [size_ic, Value.cells]; omega) | simp) (by first | exact oneCell_ic | assumption) ?_ | refine WO_store Hvad.sizeOf59 rfl (v := .agg _) rfl (Hb.h (by repeat (first | assumption | exact Hb.newY _ _ | refine Hb.alloc ?_ | refine Hb.drew ?_ | refine Hb.ext (by assumption) ?_ | exact Hb.setSameL (by first | omega | (simp only [size_alloc, size_setB, size_drew]; omega)) | exact Hb.setSame (by assumption) | refine Hb.set (by first | omega | (simp only [size_alloc, size_setB, size_drew]; omega)) ?_ ))) (by first | omega | assumption | rfl | decide | (simp only [size_ic, Value.cells]; omega) | simp) (by first | omega | assumption | rfl | decide | (simp only [size_ic, Value.cells]; omega) | simp) (by first | exact oneCell_ic | assumption) ?_
    refine WO_p (PS_assign_bool rfl) ?_
    refine WO_nil ?_
    refine thn_normal ?_
    refine W_ret ?_
    refine bodyQ_cell2T (.bool _) Hvad.results201 rfl rfl rfl Hvad.isAgg59 Hvad.sizeOf59 Hvad.isAgg59 Hvad.sizeOf59 rfl (Hb.h (by repeat (first | assumption | exact Hb.newY _ _ | refine Hb.alloc ?_ | refine Hb.drew ?_ | refine Hb.ext (by assumption) ?_ | exact Hb.setSameL (by first | omega | (simp only [size_alloc, size_setB, size_drew]; omega)) | exact Hb.setSame (by assumption) | refine Hb.set (by first | omega | (simp only [size_alloc, size_setB, size_drew]; omega)) ?_ ))) (by first | omega | assumption | rfl | decide | (simp only [size_ic, Value.cells]; omega) | simp) rfl (Hb.h (by repeat (first | assumption | exact Hb.newY _ _ | refine Hb.alloc ?_ | refine Hb.drew ?_ | refine Hb.ext (by assumption) ?_ | exact Hb.setSameL (by first | omega | (simp only [size_alloc, size_setB, size_drew]; omega)) | exact Hb.setSame (by assumption) | refine Hb.set (by first | omega | (simp only [size_alloc, size_setB, size_drew]; omega)) ?_ ))) (by first | omega | assumption | rfl | decide | (simp only [size_ic, Value.cells]; omega) | simp) rfl ?_
    rw [V.isWarmS, V.sval, V.sorig, hg]; exact ⟨rfl, (by repeat (first | assumption | exact Ext.refl _ | refine Ext.alloc ?_ _ | refine Ext.drew ?_ | refine Ext.setB ?_ (by first | omega | (simp only [size_alloc, size_setB, size_drew]; omega)) _ | refine Ext.trans ?_ (by assumption)))⟩

set_option maxRecDepth 10000 in
theorem sizes_spec (C : Nat) (c : Array Value) (v : V) (B : VB) (β : Option Nat) (w : World) (hv : VS w C c v B β) : Ret Hvad.prog 29 #[.pointer (some ⟨C, 2435, none⟩)] w fun u w' => u = .tuple #[.int .i32 v.accts.length, .int .i32 v.slots.length, .int .i32 v.journal.length, .int .i32 v.nmarks] ∧ Ext w w' := by
  have hblk := hv.blk
  have hla := hv.ty.la
  have hls := hv.ty.ls
  have hlj := hv.ty.lj
  have hnm := hv.rep.nmarks
  have hd_accts : Ce c 2435 (.slice (slp B.a) v.accts.length (slc B.a)) := hv.rep.accts
  have hd_slots : Ce c 2436 (.slice (slp B.s) v.slots.length (slc B.s)) := hv.rep.slots
  have hd_journal : Ce c 10629 (.slice (slp B.j) v.journal.length (slc B.j)) := hv.rep.journal
  refine Ret_of_W Hvad.func29 rfl rfl ?_
  refine W_seq ?_
  refine W_region rfl ?_
  refine WO_p (PS_assign_int rfl) ?_
  refine WO_p (PS_assign_int rfl) ?_
  refine WO_p (PS_assign_int rfl) ?_
  refine WO_p (PS_assign_int rfl) ?_
  refine WO_nil ?_
  refine thn_normal ?_
  refine W_seq ?_
  refine W_drawE [false, false, false, false, false, false, false, false, false, false, false, false, false, false, false, false, false, false, false, false, false, false, false, false, false, false] hmix (by kernel_rfl) rfl ?_
  refine WH_p (PS_move_ptr rfl) rfl ?_
  refine WH_p (PS_nilCheck rfl) rfl ?_
  refine WH_p (PS_fieldAddr 0 Hvad.runUnderlying79 rfl Hvad.sizeOf70 rfl rfl) rfl ?_
  refine WH_load (.slice _ _ _) Hvad.isAgg70 rfl (Hb.h (by repeat (first | assumption | exact Hb.newY _ _ | refine Hb.alloc ?_ | refine Hb.drew ?_ | refine Hb.ext (by assumption) ?_ | exact Hb.setSameL (by first | omega | (simp only [size_alloc, size_setB, size_drew]; omega)) | exact Hb.setSame (by assumption) | refine Hb.set (by first | omega | (simp only [size_alloc, size_setB, size_drew]; omega)) ?_ ))) (Ce.h (by first | assumption | exact ⟨rfl⟩)) ?_
  refine WH_p (PS_lenS Hvad.runUnderlying70 rfl) rfl ?_
  refine WH_p (PS_conv_i32n Hvad.runUnderlying3 Hvad.runUnderlying21 rfl (by omega) (by omega)) rfl ?_
  refine WH_p (PS_move_ptr rfl) rfl ?_
  refine WH_p (PS_nilCheck rfl) rfl ?_
  refine WH_p (PS_fieldAddr 1 Hvad.runUnderlying79 rfl Hvad.sizeOf71 rfl rfl) rfl ?_
  refine WH_load (.slice _ _ _) Hvad.isAgg71 rfl (Hb.h (by repeat (first | assumption | exact Hb.newY _ _ | refine Hb.alloc ?_ | refine Hb.drew ?_ | refine Hb.ext (by assumption) ?_ | exact Hb.setSameL (by first | omega | (simp only [size_alloc, size_setB, size_drew]; omega)) | exact Hb.setSame (by assumption) | refine Hb.set (by first | omega | (simp only [size_alloc, size_setB, size_drew]; omega)) ?_ ))) (Ce.h (by first | assumption | exact ⟨rfl⟩)) ?_
  refine WH_p (PS_lenS Hvad.runUnderlying71 rfl) rfl ?_
  refine WH_p (PS_conv_i32n Hvad.runUnderlying3 Hvad.runUnderlying21 rfl (by omega) (by omega)) rfl ?_
  refine WH_p (PS_move_ptr rfl) rfl ?_
  refine WH_p (PS_nilCheck rfl) rfl ?_
  refine WH_p (PS_fieldAddr 8194 Hvad.runUnderlying79 rfl Hvad.sizeOf73 rfl rfl) rfl ?_
  refine WH_load (.slice _ _ _) Hvad.isAgg73 rfl (Hb.h (by repeat (first | assumption | exact Hb.newY _ _ | refine Hb.alloc ?_ | refine Hb.drew ?_ | refine Hb.ext (by assumption) ?_ | exact Hb.setSameL (by first | omega | (simp only [size_alloc, size_setB, size_drew]; omega)) | exact Hb.setSame (by assumption) | refine Hb.set (by first | omega | (simp only [size_alloc, size_setB, size_drew]; omega)) ?_ ))) (Ce.h (by first | assumption | exact ⟨rfl⟩)) ?_
  refine WH_p (PS_lenS Hvad.runUnderlying73 rfl) rfl ?_
  refine WH_p (PS_conv_i32n Hvad.runUnderlying3 Hvad.runUnderlying21 rfl (by omega) (by omega)) rfl ?_
  refine WH_p (PS_move_ptr rfl) rfl ?_
  refine WH_p (PS_nilCheck rfl) rfl ?_
  refine WH_p (PS_fieldAddr 24579 Hvad.runUnderlying79 rfl Hvad.sizeOf21 rfl rfl) rfl ?_
  refine WH_load (.int _ _) Hvad.isAgg21 rfl (Hb.h (by repeat (first | assumption | exact Hb.newY _ _ | refine Hb.alloc ?_ | refine Hb.drew ?_ | refine Hb.ext (by assumption) ?_ | exact Hb.setSameL (by first | omega | (simp only [size_alloc, size_setB, size_drew]; omega)) | exact Hb.setSame (by assumption) | refine Hb.set (by first | omega | (simp only [size_alloc, size_setB, size_drew]; omega)) ?_ ))) (Ce.h (by first | assumption | exact ⟨rfl⟩)) ?_
  refine WH_p (PS_assign_int rfl) rfl ?_
  refine WH_p (PS_assign_int rfl) rfl ?_
  refine WH_p (PS_assign_int rfl) rfl ?_
  refine WH_p (PS_assign_int rfl) rfl ?_
  refine WH_nil ?_
  refine thn_normal ?_
  refine W_ret ?_
  refine bodyQ_ret4 Hvad.results29 rfl rfl rfl rfl (.int _ _) (.int _ _) (.int _ _) (.int _ _) rfl rfl rfl rfl ?_
  exact ⟨rfl, (by repeat (first | assumption | exact Ext.refl _ | refine Ext.alloc ?_ _ | refine Ext.drew ?_ | refine Ext.setB ?_ (by first | omega | (simp only [size_alloc, size_setB, size_drew]; omega)) _ | refine Ext.trans ?_ (by assumption)))⟩

def V.live (v : V) (id : Int) : Bool := decide (0 ≤ id ∧ id < v.nmarks ∧ id < 16384)
set_option maxRecDepth 10000 in
theorem live_spec (C : Nat) (c : Array Value) (v : V) (B : VB) (β : Option Nat) (id : Int) (w : World) (hv : VS w C c v B β) : Ret Hvad.prog 222 #[.pointer (some ⟨C, 2435, none⟩), .int .i32 id] w fun u w' => u = .bool (v.live id) ∧ Ext w w' := by
  have hblk := hv.blk
  have hnm := hv.rep.nmarks
  refine Ret_of_W Hvad.func222 rfl rfl ?_
  refine W_seq ?_
  refine W_region rfl ?_
  refine WO_p (PS_assign_bool rfl) ?_
  refine WO_nil ?_
  refine thn_normal ?_
  refine W_seq ?_
  refine W_region rfl ?_
  refine WO_p (PS_move_int rfl) ?_
  refine WO_p (PS_geq rfl rfl) ?_
  refine WO_p (PS_move_bool rfl) ?_
  refine WO_if (t := 7) rfl (fun hb2 => ?_) (fun hb2 => ?_)
  · have hb2p := hb2.h; simp only [al_ete, al_dfn, Bool.not_eq_true', Bool.not_eq_false', al_ne, Bool.not_not, al_nn] at hb2p
    refine WO_guardT rfl rfl hb2.h ?_
    refine WO_p (PS_move_int rfl) ?_
    refine WO_guardT rfl rfl hb2.h ?_
    refine WO_p (PS_move_ptr rfl) ?_
    refine WO_guardT rfl rfl hb2.h ?_
    refine WO_p (PS_nilCheck rfl) ?_
    refine WO_guardT rfl rfl hb2.h ?_
    refine WO_p (PS_fieldAddr 24579 Hvad.runUnderlying79 rfl Hvad.sizeOf21 rfl rfl) ?_
    refine WO_guardT rfl rfl hb2.h ?_
    refine WO_load (.int _ _) Hvad.isAgg21 rfl (Hb.h (by repeat (first | assumption | exact Hb.newY _ _ | refine Hb.alloc ?_ | refine Hb.drew ?_ | refine Hb.ext (by assumption) ?_ | exact Hb.setSameL (by first | omega | (simp only [size_alloc, size_setB, size_drew]; omega)) | exact Hb.setSame (by assumption) | refine Hb.set (by first | omega | (simp only [size_alloc, size_setB, size_drew]; omega)) ?_ ))) (Ce.h (by first | assumption | exact ⟨rfl⟩)) ?_
    refine WO_guardT rfl rfl hb2.h ?_
    refine WO_p (PS_lss rfl rfl) ?_
    refine WO_p (PS_pickT rfl hb2.h rfl) ?_
    refine WO_p (PS_move_bool rfl) ?_
    refine WO_if (t := 15) rfl (fun hb4 => ?_) (fun hb4 => ?_)
    · have hb4p := hb4.h; simp only [al_ete, al_dfn, Bool.not_eq_true', Bool.not_eq_false', al_ne, Bool.not_not, al_nn] at hb4p
      refine WO_guardT rfl rfl hb4.h ?_
      refine WO_p (PS_move_int rfl) ?_
      refine WO_guardT rfl rfl hb4.h ?_
      refine WO_p (PS_lss rfl rfl) ?_
      refine WO_p (PS_pickT rfl hb4.h rfl) ?_
      refine WO_p (PS_assign_bool rfl) ?_
      refine WO_nil ?_
      refine thn_normal ?_
      refine W_ret ?_
      refine bodyQ_ret1 Hvad.results222 rfl (.bool _) rfl ?_
      exact ⟨congrArg Value.bool (by unfold V.live; first | (symm; apply al_ef; omega) | (apply al_dd.2; omega)), (by repeat (first | assumption | exact Ext.refl _ | refine Ext.alloc ?_ _ | refine Ext.drew ?_ | refine Ext.setB ?_ (by first | omega | (simp only [size_alloc, size_setB, size_drew]; omega)) _ | refine Ext.trans ?_ (by assumption)))⟩
    · have hb4p := hb4.h; simp only [al_ete, al_dfn, Bool.not_eq_true', Bool.not_eq_false', al_ne, Bool.not_not, al_nn] at hb4p
      refine WO_guardF rfl rfl hb4.h ?_
      refine WO_guardF rfl rfl hb4.h ?_
      refine WO_p (PS_pickF rfl hb4.h rfl) ?_
      refine WO_p (PS_assign_bool rfl) ?_
      refine WO_nil ?_
      refine thn_normal ?_
      refine W_ret ?_
      refine bodyQ_ret1 Hvad.results222 rfl (.bool _) rfl ?_
      exact ⟨congrArg Value.bool (by unfold V.live; first | (symm; apply al_ef; omega) | (apply al_dd.2; omega)), (by repeat (first | assumption | exact Ext.refl _ | refine Ext.alloc ?_ _ | refine Ext.drew ?_ | refine Ext.setB ?_ (by first | omega | (simp only [size_alloc, size_setB, size_drew]; omega)) _ | refine Ext.trans ?_ (by assumption)))⟩
  · have hb2p := hb2.h; simp only [al_ete, al_dfn, Bool.not_eq_true', Bool.not_eq_false', al_ne, Bool.not_not, al_nn] at hb2p
    refine WO_guardF rfl rfl hb2.h ?_
    refine WO_guardF rfl rfl hb2.h ?_
    refine WO_guardF rfl rfl hb2.h ?_
    refine WO_guardF rfl rfl hb2.h ?_
    refine WO_guardF rfl rfl hb2.h ?_
    refine WO_guardF rfl rfl hb2.h ?_
    refine WO_p (PS_pickF rfl hb2.h rfl) ?_
    refine WO_p (PS_move_bool rfl) ?_
    refine WO_guardF rfl rfl rfl ?_
    refine WO_guardF rfl rfl rfl ?_
    refine WO_p (PS_pickF rfl rfl rfl) ?_
    refine WO_p (PS_assign_bool rfl) ?_
    refine WO_nil ?_
    refine thn_normal ?_
    refine W_ret ?_
    refine bodyQ_ret1 Hvad.results222 rfl (.bool _) rfl ?_
    exact ⟨congrArg Value.bool (by unfold V.live; first | (symm; apply al_ef; omega) | (apply al_dd.2; omega)), (by repeat (first | assumption | exact Ext.refl _ | refine Ext.alloc ?_ _ | refine Ext.drew ?_ | refine Ext.setB ?_ (by first | omega | (simp only [size_alloc, size_setB, size_drew]; omega)) _ | refine Ext.trans ?_ (by assumption)))⟩

def V.snap (v : V) : Int × V := if v.nmarks < 0 ∨ 16384 ≤ v.nmarks then (-1, v) else (v.nmarks, { v with marks := fun i => if i = v.nmarks.toNat then (v.journal.length : Int) else v.marks i, nmarks := v.nmarks + 1 })
set_option maxRecDepth 10000 in
theorem snap_spec (C : Nat) (c : Array Value) (v : V) (B : VB) (β : Option Nat) (w : World) (hv : VS w C c v B β) : Ret Hvad.prog 83 #[.pointer (some ⟨C, 2435, none⟩)] w fun u w' => u = .int .i32 v.snap.1 ∧ VRet w C c B β w' v.snap.2 := by
  have hblk := hv.blk
  have hnm := hv.rep.nmarks
  have hni := hv.ty.nmarks
  unfold I32 at hni
  have hlj := hv.ty.lj
  have hcs := hv.rep.size
  have hd_journal : Ce c 10629 (.slice (slp B.j) v.journal.length (slc B.j)) := hv.rep.journal
  refine Ret_of_W Hvad.func83 rfl rfl ?_
  refine W_seq ?_
  refine W_region rfl ?_
  refine WO_p (PS_assign_int rfl) ?_
  refine WO_nil ?_
  refine thn_normal ?_
  refine W_seq ?_
  refine W_seq ?_
  refine W_region rfl ?_
  refine WO_p (PS_move_ptr rfl) ?_
  refine WO_p (PS_nilCheck rfl) ?_
  refine WO_p (PS_fieldAddr 24579 Hvad.runUnderlying79 rfl Hvad.sizeOf21 rfl rfl) ?_
  refine WO_load (.int _ _) Hvad.isAgg21 rfl (Hb.h (by repeat (first | assumption | exact Hb.newY _ _ | refine Hb.alloc ?_ | refine Hb.drew ?_ | refine Hb.ext (by assumption) ?_ | exact Hb.setSameL (by first | omega | (simp only [size_alloc, size_setB, size_drew]; omega)) | exact Hb.setSame (by assumption) | refine Hb.set (by first | omega | (simp only [size_alloc, size_setB, size_drew]; omega)) ?_ ))) (Ce.h (by first | assumption | exact ⟨rfl⟩)) ?_
  refine WO_p (PS_lss rfl rfl) ?_
  refine WO_p (PS_move_bool rfl) ?_
  refine WO_if (t := 8) rfl (fun hb2 => ?_) (fun hb2 => ?_)
  · have hb2p := hb2.h; simp only [al_ete, al_dfn, Bool.not_eq_true', Bool.not_eq_false', al_ne, Bool.not_not, al_nn] at hb2p
    refine WO_guardF rfl rfl hb2.h ?_
    refine WO_guardF rfl rfl hb2.h ?_
    refine WO_guardF rfl rfl hb2.h ?_
    refine WO_guardF rfl rfl hb2.h ?_
    refine WO_guardF rfl rfl hb2.h ?_
    refine WO_p (PS_pickT rfl hb2.h rfl) ?_
    refine WO_nil ?_
    refine thn_normal ?_
    refine W_condT rfl rfl ?_
    refine W_seq ?_
    refine W_region rfl ?_
    refine WO_p (PS_assign_int rfl) ?_
    refine WO_nil ?_
    refine thn_normal ?_
    refine W_ret ?_
    refine thn_ret ?_
    refine bodyQ_ret1 Hvad.results83 rfl (.int _ _) rfl ?_
    rw [V.snap]
    first
    | (rw [if_pos (by omega)]; exact ⟨rfl, VRet.ext hv (by repeat (first | assumption | exact Ext.refl _ | refine Ext.alloc ?_ _ | refine Ext.drew ?_ | refine Ext.setB ?_ (by first | omega | (simp only [size_alloc, size_setB, size_drew]; omega)) _ | refine Ext.trans ?_ (by assumption)))⟩)
    | (rw [if_neg (by omega)]; exact ⟨congrArg (Value.int .i32) (by show v.nmarks + 1 - 1 = v.nmarks; omega), ⟨_, _, hV4, (VStep.pre (Ext.drew (Ext.refl _)) hS3).trans hS4⟩⟩)
  · have hb2p := hb2.h; simp only [al_ete, al_dfn, Bool.not_eq_true', Bool.not_eq_false', al_ne, Bool.not_not, al_nn] at hb2p
    refine WO_guardT rfl rfl hb2.h ?_
    refine WO_p (PS_move_ptr rfl) ?_
    refine WO_guardT rfl rfl hb2.h ?_
    refine WO_p (PS_nilCheck rfl) ?_
    refine WO_guardT rfl rfl hb2.h ?_
    refine WO_p (PS_fieldAddr 24579 Hvad.runUnderlying79 rfl Hvad.sizeOf21 rfl rfl) ?_
    refine WO_guardT rfl rfl hb2.h ?_
    refine WO_load (.int _ _) Hvad.isAgg21 rfl (Hb.h (by repeat (first | assumption | exact Hb.newY _ _ | refine Hb.alloc ?_ | refine Hb.drew ?_ | refine Hb.ext (by assumption) ?_ | exact Hb.setSameL (by first | omega | (simp only [size_alloc, size_setB, size_drew]; omega)) | exact Hb.setSame (by assumption) | refine Hb.set (by first | omega | (simp only [size_alloc, size_setB, size_drew]; omega)) ?_ ))) (Ce.h (by first | assumption | exact ⟨rfl⟩)) ?_
    refine WO_guardT rfl rfl hb2.h ?_
    refine WO_p (PS_geq rfl rfl) ?_
    refine WO_p (PS_pickF rfl hb2.h rfl) ?_
    refine WO_nil ?_
    refine thn_normal ?_
    refine W_if rfl (fun hb4 => ?_) (fun hb4 => ?_)
    · have hb4p := hb4.h; simp only [al_ete, al_dfn, Bool.not_eq_true', Bool.not_eq_false', al_ne, Bool.not_not, al_nn] at hb4p
      have h14 : v.nmarks < 0 ∨ 16384 ≤ v.nmarks := by omega
      refine W_seq ?_
      refine W_region rfl ?_
      refine WO_p (PS_assign_int rfl) ?_
      refine WO_nil ?_
      refine thn_normal ?_
      refine W_ret ?_
      refine thn_ret ?_
      refine bodyQ_ret1 Hvad.results83 rfl (.int _ _) rfl ?_
      rw [V.snap]
      first
      | (rw [if_pos (by omega)]; exact ⟨rfl, VRet.ext hv (by repeat (first | assumption | exact Ext.refl _ | refine Ext.alloc ?_ _ | refine Ext.drew ?_ | refine Ext.setB ?_ (by first | omega | (simp only [size_alloc, size_setB, size_drew]; omega)) _ | refine Ext.trans ?_ (by assumption)))⟩)
      | (rw [if_neg (by omega)]; exact ⟨congrArg (Value.int .i32) (by show v.nmarks + 1 - 1 = v.nmarks; omega), ⟨_, _, hV4, (VStep.pre (Ext.drew (Ext.refl _)) hS3).trans hS4⟩⟩)
    · have hb4p := hb4.h; simp only [al_ete, al_dfn, Bool.not_eq_true', Bool.not_eq_false', al_ne, Bool.not_not, al_nn] at hb4p
      have h14 : ¬ (v.nmarks < 0 ∨ 16384 ≤ v.nmarks) := by omega
      refine W_skip ?_
      refine thn_normal ?_
      refine W_seq ?_
      refine W_drawE [false, false, false, false, false, false, false, false, false, false, false, false, false, false, false] hmix (by kernel_rfl) rfl ?_
      have hv2 := hv.ext (Ext.drew (Ext.refl _))
      refine WH_p (PS_move_ptr rfl) rfl ?_
      refine WH_p (PS_move_ptr rfl) rfl ?_
      refine WH_p (PS_nilCheck rfl) rfl ?_
      refine WH_p (PS_fieldAddr 24579 Hvad.runUnderlying79 rfl Hvad.sizeOf21 rfl rfl) rfl ?_
      refine WH_load (.int _ _) Hvad.isAgg21 rfl (Hb.h (by repeat (first | assumption | exact Hb.newY _ _ | refine Hb.alloc ?_ | refine Hb.drew ?_ | refine Hb.ext (by assumption) ?_ | exact Hb.setSameL (by first | omega | (simp only [size_alloc, size_setB, size_drew]; omega)) | exact Hb.setSame (by assumption) | refine Hb.set (by first | omega | (simp only [size_alloc, size_setB, size_drew]; omega)) ?_ ))) (Ce.h (by first | assumption | exact ⟨rfl⟩)) ?_
      refine WH_p (PS_move_ptr rfl) rfl ?_
      refine WH_p (PS_nilCheck rfl) rfl ?_
      refine WH_p (PS_fieldAddr 8194 Hvad.runUnderlying79 rfl Hvad.sizeOf73 rfl rfl) rfl ?_
      refine WH_load (.slice _ _ _) Hvad.isAgg73 rfl (Hb.h (by repeat (first | assumption | exact Hb.newY _ _ | refine Hb.alloc ?_ | refine Hb.drew ?_ | refine Hb.ext (by assumption) ?_ | exact Hb.setSameL (by first | omega | (simp only [size_alloc, size_setB, size_drew]; omega)) | exact Hb.setSame (by assumption) | refine Hb.set (by first | omega | (simp only [size_alloc, size_setB, size_drew]; omega)) ?_ ))) (Ce.h (by first | assumption | exact ⟨rfl⟩)) ?_
      refine WH_p (PS_lenS Hvad.runUnderlying73 rfl) rfl ?_
      refine WH_p (PS_conv_i32n Hvad.runUnderlying3 Hvad.runUnderlying21 rfl (by omega) (by omega)) rfl ?_
      refine WH_p (PS_nilCheck rfl) rfl ?_
      refine WH_p (PS_fieldAddr 8195 Hvad.runUnderlying79 rfl Hvad.sizeOf74 rfl rfl) rfl ?_
      refine WH_p (PS_indexA Hvad.runUnderlying74 Hvad.sizeOf21 rfl rfl (by omega) (by omega)) rfl ?_
      refine WH_store1 Hvad.sizeOf21 rfl (v := .int _ _) rfl hv2.blk.h rfl (by omega) rfl (fun h => by cases h) ?_
      obtain ⟨hV3, hS3⟩ := hv2.put_marks v.nmarks.toNat v.journal.length (by omega) (by unfold I32; omega)
      clear hblk hnm
      have hblk := hV3.blk
      have hnm : Ce _ 27014 (.int .i32 v.nmarks) := hV3.rep.nmarks
      refine WH_nil ?_
      refine thn_normal ?_
      refine W_seq ?_
      refine W_region rfl ?_
      refine WO_p (PS_move_ptr rfl) ?_
      refine WO_p (PS_nilCheck rfl) ?_
      refine WO_p (PS_fieldAddr 24579 Hvad.runUnderlying79 rfl Hvad.sizeOf21 rfl rfl) ?_
      refine WO_load (.int _ _) Hvad.isAgg21 rfl (Hb.h (by repeat (first | assumption | exact Hb.newY _ _ | refine Hb.alloc ?_ | refine Hb.drew ?_ | refine Hb.ext (by assumption) ?_ | exact Hb.setSameL (by first | omega | (simp only [size_alloc, size_setB, size_drew]; omega)) | exact Hb.setSame (by assumption) | refine Hb.set (by first | omega | (simp only [size_alloc, size_setB, size_drew]; omega)) ?_ ))) (Ce.h (by first | assumption | exact ⟨rfl⟩)) ?_
      refine WO_p (PS_add_i32n rfl rfl (by omega) (by omega)) ?_
      refine WO_p (PS_nilCheck rfl) ?_
      refine WO_p (PS_fieldAddr 24579 Hvad.runUnderlying79 rfl Hvad.sizeOf21 rfl rfl) ?_
      refine WO_store1 Hvad.sizeOf21 rfl (v := .int _ _) rfl hV3.blk.h rfl (by rw [hV3.rep.size]; decide) rfl ?_
      obtain ⟨hV4, hS4⟩ := hV3.put_nmarks (v.nmarks + 1) (by unfold I32; omega)
      clear hblk hnm
      have hblk := hV4.blk
      have hnm : Ce _ 27014 (.int .i32 (v.nmarks + 1)) := hV4.rep.nmarks
      refine WO_nil ?_
      refine thn_normal ?_
      refine W_seq ?_
      refine W_region rfl ?_
      refine WO_p (PS_move_ptr rfl) ?_
      refine WO_p (PS_nilCheck rfl) ?_
      refine WO_p (PS_fieldAddr 24579 Hvad.runUnderlying79 rfl Hvad.sizeOf21 rfl rfl) ?_
      refine WO_load (.int _ _) Hvad.isAgg21 rfl (Hb.h (by repeat (first | assumption | exact Hb.newY _ _ | refine Hb.alloc ?_ | refine Hb.drew ?_ | refine Hb.ext (by assumption) ?_ | exact Hb.setSameL (by first | omega | (simp only [size_alloc, size_setB, size_drew]; omega)) | exact Hb.setSame (by assumption) | refine Hb.set (by first | omega | (simp only [size_alloc, size_setB, size_drew]; omega)) ?_ ))) (Ce.h (by first | assumption | exact ⟨rfl⟩)) ?_
      refine WO_p (PS_sub_i32n rfl rfl (by omega) (by omega)) ?_
      refine WO_p (PS_assign_int rfl) ?_
      refine WO_nil ?_
      refine thn_normal ?_
      refine W_ret ?_
      refine bodyQ_ret1 Hvad.results83 rfl (.int _ _) rfl ?_
      rw [V.snap]
      first
      | (rw [if_pos (by omega)]; exact ⟨rfl, VRet.ext hv (by repeat (first | assumption | exact Ext.refl _ | refine Ext.alloc ?_ _ | refine Ext.drew ?_ | refine Ext.setB ?_ (by first | omega | (simp only [size_alloc, size_setB, size_drew]; omega)) _ | refine Ext.trans ?_ (by assumption)))⟩)
      | (rw [if_neg (by omega)]; exact ⟨congrArg (Value.int .i32) (by show v.nmarks + 1 - 1 = v.nmarks; omega), ⟨_, _, hV4, (VStep.pre (Ext.drew (Ext.refl _)) hS3).trans hS4⟩⟩)

end Go.Proofs.YgvadwGreat
