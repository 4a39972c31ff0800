import Derived.Test.YgvadwGreatVc
namespace Go.Proofs.YgvadwGreat
set_option linter.unusedSimpArgs false
set_option linter.unusedVariables false
def V.refDown (v : V) (n : Int) : Bool × V :=
  if 65536 ≤ v.journal.length ∨ v.ref < n then (false, v) else (true, { v with journal := v.journal ++ [⟨6, 0, v.ref, [0, 0, 0, 0], (none, 0, 0), false⟩], ref := v.ref - n })
def hitT (l : List Temp) (a : Int) (K : List Int) (i : Int) : Bool := match l[i.toNat]? with | some x => decide (x.acct = a ∧ x.key = K) | none => false
theorem hitT_true {l : List Temp} {a : Int} {K : List Int} {i : Int} {x : Temp} (hx : l[i.toNat]? = some x) : hitT l a K i = decide (x.acct = a ∧ x.key = K) := by simp [hitT, hx]
theorem hitT_none {l : List Temp} {a : Int} {K : List Int} {i : Int} (hi : (l.length : Int) ≤ i) : hitT l a K i = false := by
  unfold hitT
  rw [List.getElem?_eq_none (by omega)]
def V.tt (v : V) (i : Nat) : Int := v.ttab.getD i (-1)
def V.findT (v : V) (a : Int) (K : List Int) : Int × Int := if v.ttab.length = 16384 then probeY v.tt (hitT v.temps a K) 16384 16384 (mixS a K % 16384).toNat else (-1, -1)

set_option maxRecDepth 10000 in
theorem refUp_spec (C : Nat) (c : Array Value) (v : V) (B : VB) (β : Option Nat) (n : Int) (w : World) (hv : VS w C c v B β) (hn : 0 ≤ n ∧ n ≤ 18446744073709551615) : Ret Hvad.prog 205 #[.pointer (some ⟨C, 2435, none⟩), .int .u64 n] w fun u w' => u = .bool (v.refUp n).1 ∧ VRet w C c B β w' (v.refUp n).2 := by
  have hlj := hv.ty.lj
  obtain ⟨hrf0, hrf1⟩ := hv.ty.ref
  refine Ret_of_W Hvad.func205 rfl rfl ?_
  refine W_seq ?_
  refine W_region rfl ?_
  refine WO_p (PS_assign_bool rfl) ?_
  refine WO_nil ?_
  refine thn_normal ?_
  refine W_seq ?_
  refine W_seq ?_
  refine W_region rfl ?_
  refine WO_p (PS_move_ptr rfl) ?_
  refine WO_call Hvad.call73 (by rfl) (Ret.mono (room_spec C c v B β _ hv) ?_)
  rintro _ w1 ⟨rfl, hE1⟩
  have hv1 := hv.ext hE1
  have hblk := hv1.blk
  have href := hv1.rep.ref
  have hd_journal : Ce c 10629 (.slice (slp B.j) v.journal.length (slc B.j)) := hv.rep.journal
  refine WO_p (PS_not rfl) ?_
  refine WO_p (PS_move_bool rfl) ?_
  refine WO_if (t := 8) rfl (fun hb4 => ?_) (fun hb4 => ?_)
  · have hb4p := hb4.h; simp only [al_ete, al_dfn, Bool.not_eq_true', Bool.not_eq_false', al_ne, Bool.not_not, al_nn] at hb4p
    refine WO_guardF rfl rfl hb4.h ?_
    refine WO_guardF rfl rfl hb4.h ?_
    refine WO_guardF rfl rfl hb4.h ?_
    refine WO_guardF rfl rfl hb4.h ?_
    refine WO_guardF rfl rfl hb4.h ?_
    refine WO_p (PS_pickT rfl hb4.h rfl) ?_
    refine WO_p (PS_move_bool rfl) ?_
    refine WO_guardF rfl rfl rfl ?_
    refine WO_guardF rfl rfl rfl ?_
    refine WO_guardF rfl rfl rfl ?_
    refine WO_guardF rfl rfl rfl ?_
    refine WO_guardF rfl rfl rfl ?_
    refine WO_guardF rfl rfl rfl ?_
    refine WO_guardF rfl rfl rfl ?_
    refine WO_p (PS_pickT rfl rfl rfl) ?_
    refine WO_nil ?_
    refine thn_normal ?_
    refine W_condT rfl rfl ?_
    refine W_seq ?_
    refine W_region rfl ?_
    refine WO_p (PS_assign_bool rfl) ?_
    refine WO_nil ?_
    refine thn_normal ?_
    refine W_ret ?_
    refine thn_ret ?_
    refine bodyQ_ret1 Hvad.results205 rfl (.bool _) rfl ?_
    rw [V.refUp]
    first
    | (rw [if_pos (by omega)]; exact ⟨rfl, VRet.ext hv hE1⟩)
    | (rw [if_neg (by omega)]; exact ⟨rfl, ⟨_, _, hV7, (VStep.pre (by repeat (first | assumption | exact Ext.refl _ | refine Ext.alloc ?_ _ | refine Ext.drew ?_ | refine Ext.setB ?_ (by first | omega | (simp only [size_alloc, size_setB, size_drew]; omega)) _ | refine Ext.trans ?_ (by assumption))) hS6).trans hS7⟩⟩)
  · have hb4p := hb4.h; simp only [al_ete, al_dfn, Bool.not_eq_true', Bool.not_eq_false', al_ne, Bool.not_not, al_nn] at hb4p
    refine WO_guardT rfl rfl hb4.h ?_
    refine WO_p (PS_move_ptr rfl) ?_
    refine WO_guardT rfl rfl hb4.h ?_
    refine WO_p (PS_nilCheck rfl) ?_
    refine WO_guardT rfl rfl hb4.h ?_
    refine WO_p (PS_fieldAddr 24580 Hvad.runUnderlying79 rfl Hvad.sizeOf26 rfl rfl) ?_
    refine WO_guardT rfl rfl hb4.h ?_
    refine WO_load (.int _ _) Hvad.isAgg26 rfl (Hb.h (by repeat (first | assumption | exact Hb.newY _ _ | refine Hb.alloc ?_ | refine Hb.drew ?_ | refine Hb.ext (by assumption) ?_ | exact Hb.setSameL (by first | omega | (simp only [size_alloc, size_setB, size_drew]; omega)) | exact Hb.setSame (by assumption) | refine Hb.set (by first | omega | (simp only [size_alloc, size_setB, size_drew]; omega)) ?_ ))) (Ce.h (by first | assumption | exact ⟨rfl⟩)) ?_
    refine WO_guardT rfl rfl hb4.h ?_
    refine WO_p (PS_gtr rfl rfl) ?_
    refine WO_p (PS_pickF rfl hb4.h rfl) ?_
    refine WO_p (PS_move_bool rfl) ?_
    refine WO_if (t := 15) rfl (fun hb6 => ?_) (fun hb6 => ?_)
    · have hb6p := hb6.h; simp only [al_ete, al_dfn, Bool.not_eq_true', Bool.not_eq_false', al_ne, Bool.not_not, al_nn] at hb6p
      refine WO_guardF rfl rfl hb6.h ?_
      refine WO_guardF rfl rfl hb6.h ?_
      refine WO_guardF rfl rfl hb6.h ?_
      refine WO_guardF rfl rfl hb6.h ?_
      refine WO_guardF rfl rfl hb6.h ?_
      refine WO_guardF rfl rfl hb6.h ?_
      refine WO_guardF rfl rfl hb6.h ?_
      refine WO_p (PS_pickT rfl hb6.h rfl) ?_
      refine WO_nil ?_
      refine thn_normal ?_
      refine W_condT rfl rfl ?_
      refine W_seq ?_
      refine W_region rfl ?_
      refine WO_p (PS_assign_bool rfl) ?_
      refine WO_nil ?_
      refine thn_normal ?_
      refine W_ret ?_
      refine thn_ret ?_
      refine bodyQ_ret1 Hvad.results205 rfl (.bool _) rfl ?_
      rw [V.refUp]
      first
      | (rw [if_pos (by omega)]; exact ⟨rfl, VRet.ext hv hE1⟩)
      | (rw [if_neg (by omega)]; exact ⟨rfl, ⟨_, _, hV7, (VStep.pre (by repeat (first | assumption | exact Ext.refl _ | refine Ext.alloc ?_ _ | refine Ext.drew ?_ | refine Ext.setB ?_ (by first | omega | (simp only [size_alloc, size_setB, size_drew]; omega)) _ | refine Ext.trans ?_ (by assumption))) hS6).trans hS7⟩⟩)
    · have hb6p := hb6.h; simp only [al_ete, al_dfn, Bool.not_eq_true', Bool.not_eq_false', al_ne, Bool.not_not, al_nn] at hb6p
      refine WO_guardT rfl rfl hb6.h ?_
      refine WO_p (PS_move_int rfl) ?_
      refine WO_guardT rfl rfl hb6.h ?_
      refine WO_p (PS_move_ptr rfl) ?_
      refine WO_guardT rfl rfl hb6.h ?_
      refine WO_p (PS_nilCheck rfl) ?_
      refine WO_guardT rfl rfl hb6.h ?_
      refine WO_p (PS_fieldAddr 24580 Hvad.runUnderlying79 rfl Hvad.sizeOf26 rfl rfl) ?_
      refine WO_guardT rfl rfl hb6.h ?_
      refine WO_load (.int _ _) Hvad.isAgg26 rfl (Hb.h (by repeat (first | assumption | exact Hb.newY _ _ | refine Hb.alloc ?_ | refine Hb.drew ?_ | refine Hb.ext (by assumption) ?_ | exact Hb.setSameL (by first | omega | (simp only [size_alloc, size_setB, size_drew]; omega)) | exact Hb.setSame (by assumption) | refine Hb.set (by first | omega | (simp only [size_alloc, size_setB, size_drew]; omega)) ?_ ))) (Ce.h (by first | assumption | exact ⟨rfl⟩)) ?_
      refine WO_guardT rfl rfl hb6.h ?_
      refine WO_p (PS_sub_u64n rfl rfl (by omega) (by omega)) ?_
      refine WO_guardT rfl rfl hb6.h ?_
      refine WO_p (PS_gtr rfl rfl) ?_
      refine WO_p (PS_pickF rfl hb6.h rfl) ?_
      refine WO_nil ?_
      refine thn_normal ?_
      refine W_if rfl (fun hb8 => ?_) (fun hb8 => ?_)
      · have hb8p := hb8.h; simp only [al_ete, al_dfn, Bool.not_eq_true', Bool.not_eq_false', al_ne, Bool.not_not, al_nn] at hb8p
        have hc : 65536 ≤ v.journal.length ∨ 209715200 < v.ref ∨ 209715200 - v.ref < n := by omega
        refine W_seq ?_
        refine W_region rfl ?_
        refine WO_p (PS_assign_bool rfl) ?_
        refine WO_nil ?_
        refine thn_normal ?_
        refine W_ret ?_
        refine thn_ret ?_
        refine bodyQ_ret1 Hvad.results205 rfl (.bool _) rfl ?_
        rw [V.refUp]
        first
        | (rw [if_pos (by omega)]; exact ⟨rfl, VRet.ext hv hE1⟩)
        | (rw [if_neg (by omega)]; exact ⟨rfl, ⟨_, _, hV7, (VStep.pre (by repeat (first | assumption | exact Ext.refl _ | refine Ext.alloc ?_ _ | refine Ext.drew ?_ | refine Ext.setB ?_ (by first | omega | (simp only [size_alloc, size_setB, size_drew]; omega)) _ | refine Ext.trans ?_ (by assumption))) hS6).trans hS7⟩⟩)
      · have hb8p := hb8.h; simp only [al_ete, al_dfn, Bool.not_eq_true', Bool.not_eq_false', al_ne, Bool.not_not, al_nn] at hb8p
        have hc : ¬ (65536 ≤ v.journal.length ∨ 209715200 < v.ref ∨ 209715200 - v.ref < n) := by omega
        have hen : (encE ⟨6, 0, v.ref, [0, 0, 0, 0], (none, 0, 0), false⟩).toArray.size = 9 := by simp [encE]
        refine W_skip ?_
        refine thn_normal ?_
        refine W_seq ?_
        refine W_drawE [false, false, false, false, false, false, false, false, false, false, true, false, false, false, false] hmix (by kernel_rfl) rfl ?_
        refine WH_p (PS_move_ptr rfl) rfl ?_
        refine WH_p (PS_move_ptr rfl) rfl ?_
        refine WH_p (PS_nilCheck rfl) rfl ?_
        refine WH_p (PS_fieldAddr 8194 Hvad.runUnderlying79 rfl Hvad.sizeOf73 rfl rfl) rfl ?_
        refine WH_load (.slice _ _ _) Hvad.isAgg73 rfl (Hb.h (by repeat (first | assumption | exact Hb.newY _ _ | refine Hb.alloc ?_ | refine Hb.drew ?_ | refine Hb.ext (by assumption) ?_ | exact Hb.setSameL (by first | omega | (simp only [size_alloc, size_setB, size_drew]; omega)) | exact Hb.setSame (by assumption) | refine Hb.set (by first | omega | (simp only [size_alloc, size_setB, size_drew]; omega)) ?_ ))) (Ce.h (by first | assumption | exact ⟨rfl⟩)) ?_
        refine WH_p (PS_move_ptr rfl) rfl ?_
        refine WH_p (PS_nilCheck rfl) rfl ?_
        refine WH_p (PS_fieldAddr 24580 Hvad.runUnderlying79 rfl Hvad.sizeOf26 rfl rfl) rfl ?_
        refine WH_load (.int _ _) Hvad.isAgg26 rfl (Hb.h (by repeat (first | assumption | exact Hb.newY _ _ | refine Hb.alloc ?_ | refine Hb.drew ?_ | refine Hb.ext (by assumption) ?_ | exact Hb.setSameL (by first | omega | (simp only [size_alloc, size_setB, size_drew]; omega)) | exact Hb.setSame (by assumption) | refine Hb.set (by first | omega | (simp only [size_alloc, size_setB, size_drew]; omega)) ?_ ))) (Ce.h (by first | assumption | exact ⟨rfl⟩)) ?_
        refine WH_p (PS_b173_02 rfl rfl) rfl ?_
        refine WH_buildSlice1 Hvad.runUnderlying73 Hvad.sizeOf173 Hvad.zeroValue173 rfl (by first | omega | assumption | rfl | decide | (simp only [size_ic, Value.cells]; omega) | simp) (by decide) (by decide) (fun _ => (by repeat (first | assumption | exact Ext.refl _ | refine Ext.alloc ?_ _ | refine Ext.drew ?_ | refine Ext.setB ?_ (by first | omega | (simp only [size_alloc, size_setB, size_drew]; omega)) _ | exact Ext.trans (by assumption) (by assumption) | refine Ext.trans ?_ (by assumption)))) ?_
        refine WH_push_journal (hv1.ext (by repeat (first | assumption | exact Ext.refl _ | refine Ext.alloc ?_ _ | refine Ext.drew ?_ | refine Ext.setB ?_ (by first | omega | (simp only [size_alloc, size_setB, size_drew]; omega)) _ | exact Ext.trans (by assumption) (by assumption) | refine Ext.trans ?_ (by assumption)))) rfl rfl (by simpa using hen) (Hb.newY _ _) ⟨⟨by show (0:Int) ≤ 6; decide, by show (6:Int) ≤ 255; decide⟩, ⟨by show _ ≤ (0:Int); decide, by show (0:Int) ≤ _; decide⟩, ⟨hrf0, hrf1⟩, Wd0⟩ (Or.inl ⟨rfl, rfl⟩) (by omega) ?_
        intro s' wA hC hV
        obtain ⟨hV6, hS6⟩ := hV
        refine WH_p (PS_nilCheck rfl) rfl ?_
        refine WH_p (PS_fieldAddr 8194 Hvad.runUnderlying79 rfl Hvad.sizeOf73 rfl rfl) rfl ?_
        refine WH_store1 Hvad.sizeOf73 rfl (v := slv _ _) rfl hC.h rfl (by rw [hv1.rep.size]; decide) rfl (fun h => by cases h) ?_
        clear hblk href
        have hblk := hV6.blk
        have href : Ce _ 27015 (.int .u64 v.ref) := hV6.rep.ref
        refine WH_nil ?_
        refine thn_normal ?_
        refine W_seq ?_
        refine W_region rfl ?_
        refine WO_p (PS_move_ptr rfl) ?_
        refine WO_p (PS_nilCheck rfl) ?_
        refine WO_p (PS_fieldAddr 24580 Hvad.runUnderlying79 rfl Hvad.sizeOf26 rfl rfl) ?_
        refine WO_load (.int _ _) Hvad.isAgg26 rfl (Hb.h (by repeat (first | assumption | exact Hb.newY _ _ | refine Hb.alloc ?_ | refine Hb.drew ?_ | refine Hb.ext (by assumption) ?_ | exact Hb.setSameL (by first | omega | (simp only [size_alloc, size_setB, size_drew]; omega)) | exact Hb.setSame (by assumption) | refine Hb.set (by first | omega | (simp only [size_alloc, size_setB, size_drew]; omega)) ?_ ))) (Ce.h (by first | assumption | exact ⟨rfl⟩)) ?_
        refine WO_p (PS_move_int rfl) ?_
        refine WO_p (PS_add_u64n rfl rfl (by omega) (by omega)) ?_
        refine WO_p (PS_nilCheck rfl) ?_
        refine WO_p (PS_fieldAddr 24580 Hvad.runUnderlying79 rfl Hvad.sizeOf26 rfl rfl) ?_
        refine WO_store1 Hvad.sizeOf26 rfl (v := .int _ _) rfl hV6.blk.h rfl (by rw [hV6.rep.size]; decide) rfl ?_
        obtain ⟨hV7, hS7⟩ := hV6.put_ref (v.ref + n) (by omega)
        refine WO_nil ?_
        refine thn_normal ?_
        refine W_seq ?_
        refine W_region rfl ?_
        refine WO_p (PS_assign_bool rfl) ?_
        refine WO_nil ?_
        refine thn_normal ?_
        refine W_ret ?_
        refine bodyQ_ret1 Hvad.results205 rfl (.bool _) rfl ?_
        rw [V.refUp]
        first
        | (rw [if_pos (by omega)]; exact ⟨rfl, VRet.ext hv hE1⟩)
        | (rw [if_neg (by omega)]; exact ⟨rfl, ⟨_, _, hV7, (VStep.pre (by repeat (first | assumption | exact Ext.refl _ | refine Ext.alloc ?_ _ | refine Ext.drew ?_ | refine Ext.setB ?_ (by first | omega | (simp only [size_alloc, size_setB, size_drew]; omega)) _ | refine Ext.trans ?_ (by assumption))) hS6).trans hS7⟩⟩)

set_option maxRecDepth 10000 in
theorem refDown_spec (C : Nat) (c : Array Value) (v : V) (B : VB) (β : Option Nat) (n : Int) (w : World) (hv : VS w C c v B β) (hn : 0 ≤ n ∧ n ≤ 18446744073709551615) : Ret Hvad.prog 204 #[.pointer (some ⟨C, 2435, none⟩), .int .u64 n] w fun u w' => u = .bool (v.refDown n).1 ∧ VRet w C c B β w' (v.refDown n).2 := by
  have hlj := hv.ty.lj
  obtain ⟨hrf0, hrf1⟩ := hv.ty.ref
  refine Ret_of_W Hvad.func204 rfl rfl ?_
  refine W_seq ?_
  refine W_region rfl ?_
  refine WO_p (PS_assign_bool rfl) ?_
  refine WO_nil ?_
  refine thn_normal ?_
  refine W_seq ?_
  refine W_seq ?_
  refine W_region rfl ?_
  refine WO_p (PS_move_ptr rfl) ?_
  refine WO_call Hvad.call73 (by rfl) (Ret.mono (room_spec C c v B β _ hv) ?_)
  rintro _ w1 ⟨rfl, hE1⟩
  have hv1 := hv.ext hE1
  have hblk := hv1.blk
  have href := hv1.rep.ref
  have hd_journal : Ce c 10629 (.slice (slp B.j) v.journal.length (slc B.j)) := hv.rep.journal
  refine WO_p (PS_not rfl) ?_
  refine WO_p (PS_move_bool rfl) ?_
  refine WO_if (t := 8) rfl (fun hb4 => ?_) (fun hb4 => ?_)
  · have hb4p := hb4.h; simp only [al_ete, al_dfn, Bool.not_eq_true', Bool.not_eq_false', al_ne, Bool.not_not, al_nn] at hb4p
    refine WO_guardF rfl rfl hb4.h ?_
    refine WO_guardF rfl rfl hb4.h ?_
    refine WO_guardF rfl rfl hb4.h ?_
    refine WO_guardF rfl rfl hb4.h ?_
    refine WO_guardF rfl rfl hb4.h ?_
    refine WO_guardF rfl rfl hb4.h ?_
    refine WO_p (PS_pickT rfl hb4.h rfl) ?_
    refine WO_nil ?_
    refine thn_normal ?_
    refine W_condT rfl rfl ?_
    refine W_seq ?_
    refine W_region rfl ?_
    refine WO_p (PS_assign_bool rfl) ?_
    refine WO_nil ?_
    refine thn_normal ?_
    refine W_ret ?_
    refine thn_ret ?_
    refine bodyQ_ret1 Hvad.results204 rfl (.bool _) rfl ?_
    rw [V.refDown]
    first
    | (rw [if_pos (by omega)]; exact ⟨rfl, VRet.ext hv hE1⟩)
    | (rw [if_neg (by omega)]; exact ⟨rfl, ⟨_, _, hV7, (VStep.pre (by repeat (first | assumption | exact Ext.refl _ | refine Ext.alloc ?_ _ | refine Ext.drew ?_ | refine Ext.setB ?_ (by first | omega | (simp only [size_alloc, size_setB, size_drew]; omega)) _ | refine Ext.trans ?_ (by assumption))) hS6).trans hS7⟩⟩)
  · have hb4p := hb4.h; simp only [al_ete, al_dfn, Bool.not_eq_true', Bool.not_eq_false', al_ne, Bool.not_not, al_nn] at hb4p
    refine WO_guardT rfl rfl hb4.h ?_
    refine WO_p (PS_move_int rfl) ?_
    refine WO_guardT rfl rfl hb4.h ?_
    refine WO_p (PS_move_ptr rfl) ?_
    refine WO_guardT rfl rfl hb4.h ?_
    refine WO_p (PS_nilCheck rfl) ?_
    refine WO_guardT rfl rfl hb4.h ?_
    refine WO_p (PS_fieldAddr 24580 Hvad.runUnderlying79 rfl Hvad.sizeOf26 rfl rfl) ?_
    refine WO_guardT rfl rfl hb4.h ?_
    refine WO_load (.int _ _) Hvad.isAgg26 rfl (Hb.h (by repeat (first | assumption | exact Hb.newY _ _ | refine Hb.alloc ?_ | refine Hb.drew ?_ | refine Hb.ext (by assumption) ?_ | exact Hb.setSameL (by first | omega | (simp only [size_alloc, size_setB, size_drew]; omega)) | exact Hb.setSame (by assumption) | refine Hb.set (by first | omega | (simp only [size_alloc, size_setB, size_drew]; omega)) ?_ ))) (Ce.h (by first | assumption | exact ⟨rfl⟩)) ?_
    refine WO_guardT rfl rfl hb4.h ?_
    refine WO_p (PS_gtr rfl rfl) ?_
    refine WO_p (PS_pickF rfl hb4.h rfl) ?_
    refine WO_nil ?_
    refine thn_normal ?_
    refine W_if rfl (fun hb6 => ?_) (fun hb6 => ?_)
    · have hb6p := hb6.h; simp only [al_ete, al_dfn, Bool.not_eq_true', Bool.not_eq_false', al_ne, Bool.not_not, al_nn] at hb6p
      have hc : 65536 ≤ v.journal.length ∨ v.ref < n := by omega
      refine W_seq ?_
      refine W_region rfl ?_
      refine WO_p (PS_assign_bool rfl) ?_
      refine WO_nil ?_
      refine thn_normal ?_
      refine W_ret ?_
      refine thn_ret ?_
      refine bodyQ_ret1 Hvad.results204 rfl (.bool _) rfl ?_
      rw [V.refDown]
      first
      | (rw [if_pos (by omega)]; exact ⟨rfl, VRet.ext hv hE1⟩)
      | (rw [if_neg (by omega)]; exact ⟨rfl, ⟨_, _, hV7, (VStep.pre (by repeat (first | assumption | exact Ext.refl _ | refine Ext.alloc ?_ _ | refine Ext.drew ?_ | refine Ext.setB ?_ (by first | omega | (simp only [size_alloc, size_setB, size_drew]; omega)) _ | refine Ext.trans ?_ (by assumption))) hS6).trans hS7⟩⟩)
    · have hb6p := hb6.h; simp only [al_ete, al_dfn, Bool.not_eq_true', Bool.not_eq_false', al_ne, Bool.not_not, al_nn] at hb6p
      have hc : ¬ (65536 ≤ v.journal.length ∨ v.ref < n) := by omega
      have hen : (encE ⟨6, 0, v.ref, [0, 0, 0, 0], (none, 0, 0), false⟩).toArray.size = 9 := by simp [encE]
      refine W_skip ?_
      refine thn_normal ?_
      refine W_seq ?_
      refine W_drawE [false, false, false, false, false, false, false, false, false, false, true, false, false, false, false] hmix (by kernel_rfl) rfl ?_
      refine WH_p (PS_move_ptr rfl) rfl ?_
      refine WH_p (PS_move_ptr rfl) rfl ?_
      refine WH_p (PS_nilCheck rfl) rfl ?_
      refine WH_p (PS_fieldAddr 8194 Hvad.runUnderlying79 rfl Hvad.sizeOf73 rfl rfl) rfl ?_
      refine WH_load (.slice _ _ _) Hvad.isAgg73 rfl (Hb.h (by repeat (first | assumption | exact Hb.newY _ _ | refine Hb.alloc ?_ | refine Hb.drew ?_ | refine Hb.ext (by assumption) ?_ | exact Hb.setSameL (by first | omega | (simp only [size_alloc, size_setB, size_drew]; omega)) | exact Hb.setSame (by assumption) | refine Hb.set (by first | omega | (simp only [size_alloc, size_setB, size_drew]; omega)) ?_ ))) (Ce.h (by first | assumption | exact ⟨rfl⟩)) ?_
      refine WH_p (PS_move_ptr rfl) rfl ?_
      refine WH_p (PS_nilCheck rfl) rfl ?_
      refine WH_p (PS_fieldAddr 24580 Hvad.runUnderlying79 rfl Hvad.sizeOf26 rfl rfl) rfl ?_
      refine WH_load (.int _ _) Hvad.isAgg26 rfl (Hb.h (by repeat (first | assumption | exact Hb.newY _ _ | refine Hb.alloc ?_ | refine Hb.drew ?_ | refine Hb.ext (by assumption) ?_ | exact Hb.setSameL (by first | omega | (simp only [size_alloc, size_setB, size_drew]; omega)) | exact Hb.setSame (by assumption) | refine Hb.set (by first | omega | (simp only [size_alloc, size_setB, size_drew]; omega)) ?_ ))) (Ce.h (by first | assumption | exact ⟨rfl⟩)) ?_
      refine WH_p (PS_b173_02 rfl rfl) rfl ?_
      refine WH_buildSlice1 Hvad.runUnderlying73 Hvad.sizeOf173 Hvad.zeroValue173 rfl (by first | omega | assumption | rfl | decide | (simp only [size_ic, Value.cells]; omega) | simp) (by decide) (by decide) (fun _ => (by repeat (first | assumption | exact Ext.refl _ | refine Ext.alloc ?_ _ | refine Ext.drew ?_ | refine Ext.setB ?_ (by first | omega | (simp only [size_alloc, size_setB, size_drew]; omega)) _ | exact Ext.trans (by assumption) (by assumption) | refine Ext.trans ?_ (by assumption)))) ?_
      refine WH_push_journal (hv1.ext (by repeat (first | assumption | exact Ext.refl _ | refine Ext.alloc ?_ _ | refine Ext.drew ?_ | refine Ext.setB ?_ (by first | omega | (simp only [size_alloc, size_setB, size_drew]; omega)) _ | exact Ext.trans (by assumption) (by assumption) | refine Ext.trans ?_ (by assumption)))) rfl rfl (by simpa using hen) (Hb.newY _ _) ⟨⟨by show (0:Int) ≤ 6; decide, by show (6:Int) ≤ 255; decide⟩, ⟨by show _ ≤ (0:Int); decide, by show (0:Int) ≤ _; decide⟩, ⟨hrf0, hrf1⟩, Wd0⟩ (Or.inl ⟨rfl, rfl⟩) (by omega) ?_
      intro s' wA hC hV
      obtain ⟨hV6, hS6⟩ := hV
      refine WH_p (PS_nilCheck rfl) rfl ?_
      refine WH_p (PS_fieldAddr 8194 Hvad.runUnderlying79 rfl Hvad.sizeOf73 rfl rfl) rfl ?_
      refine WH_store1 Hvad.sizeOf73 rfl (v := slv _ _) rfl hC.h rfl (by rw [hv1.rep.size]; decide) rfl (fun h => by cases h) ?_
      clear hblk href
      have hblk := hV6.blk
      have href : Ce _ 27015 (.int .u64 v.ref) := hV6.rep.ref
      refine WH_nil ?_
      refine thn_normal ?_
      refine W_seq ?_
      refine W_region rfl ?_
      refine WO_p (PS_move_ptr rfl) ?_
      refine WO_p (PS_nilCheck rfl) ?_
      refine WO_p (PS_fieldAddr 24580 Hvad.runUnderlying79 rfl Hvad.sizeOf26 rfl rfl) ?_
      refine WO_load (.int _ _) Hvad.isAgg26 rfl (Hb.h (by repeat (first | assumption | exact Hb.newY _ _ | refine Hb.alloc ?_ | refine Hb.drew ?_ | refine Hb.ext (by assumption) ?_ | exact Hb.setSameL (by first | omega | (simp only [size_alloc, size_setB, size_drew]; omega)) | exact Hb.setSame (by assumption) | refine Hb.set (by first | omega | (simp only [size_alloc, size_setB, size_drew]; omega)) ?_ ))) (Ce.h (by first | assumption | exact ⟨rfl⟩)) ?_
      refine WO_p (PS_move_int rfl) ?_
      refine WO_p (PS_sub_u64n rfl rfl (by omega) (by omega)) ?_
      refine WO_p (PS_nilCheck rfl) ?_
      refine WO_p (PS_fieldAddr 24580 Hvad.runUnderlying79 rfl Hvad.sizeOf26 rfl rfl) ?_
      refine WO_store1 Hvad.sizeOf26 rfl (v := .int _ _) rfl hV6.blk.h rfl (by rw [hV6.rep.size]; decide) rfl ?_
      obtain ⟨hV7, hS7⟩ := hV6.put_ref (v.ref - n) (by omega)
      refine WO_nil ?_
      refine thn_normal ?_
      refine W_seq ?_
      refine W_region rfl ?_
      refine WO_p (PS_assign_bool rfl) ?_
      refine WO_nil ?_
      refine thn_normal ?_
      refine W_ret ?_
      refine bodyQ_ret1 Hvad.results204 rfl (.bool _) rfl ?_
      rw [V.refDown]
      first
      | (rw [if_pos (by omega)]; exact ⟨rfl, VRet.ext hv hE1⟩)
      | (rw [if_neg (by omega)]; exact ⟨rfl, ⟨_, _, hV7, (VStep.pre (by repeat (first | assumption | exact Ext.refl _ | refine Ext.alloc ?_ _ | refine Ext.drew ?_ | refine Ext.setB ?_ (by first | omega | (simp only [size_alloc, size_setB, size_drew]; omega)) _ | refine Ext.trans ?_ (by assumption))) hS6).trans hS7⟩⟩)

set_option maxRecDepth 10000 in
theorem findTemp_spec (C : Nat) (c : Array Value) (v : V) (B : VB) (β : Option Nat) (a : Int) (K : List Int) (w : World) (hv : VS w C c v B β) (ha : I32 a) (hK : Wd K) : Ret Hvad.prog 262 #[.pointer (some ⟨C, 2435, none⟩), .int .i32 a, .agg (ic .u64 K)] w fun u w' => u = .tuple #[.int .i32 (v.findT a K).1, .int .i32 (v.findT a K).2] ∧ Ext w w' := by
  generalize hR : v.findT a K = R
  have hmb := mixS_bd a K
  have hKl := hK.1
  have hblk := hv.blk
  have hltt := hv.ty.ltt
  have hdt : Ce c 27018 (.slice (slp (ttS v.ttab B.tt)) v.ttab.length (slc (ttS v.ttab B.tt))) := hv.rep.ttab
  refine Ret_of_W Hvad.func262 rfl rfl ?_
  refine W_seq ?_
  refine W_region rfl ?_
  refine WO_box (.agg _) rfl ?_
  refine WO_p (PS_assign_int rfl) ?_
  refine WO_p (PS_assign_int rfl) ?_
  refine WO_nil ?_
  refine thn_normal ?_
  refine W_seq ?_
  refine W_seq ?_
  refine W_region rfl ?_
  refine WO_p (PS_move_ptr rfl) ?_
  refine WO_p (PS_nilCheck rfl) ?_
  refine WO_p (PS_fieldAddr 24583 Hvad.runUnderlying79 rfl Hvad.sizeOf77 rfl rfl) ?_
  refine WO_load (.slice _ _ _) Hvad.isAgg77 rfl (Hb.h (by repeat (first | assumption | exact Hb.newY _ _ | refine Hb.alloc ?_ | refine Hb.drew ?_ | refine Hb.ext (by assumption) ?_ | exact Hb.setSameL (by first | omega | (simp only [size_alloc, size_setB, size_drew]; omega)) | exact Hb.setSame (by assumption) | refine Hb.set (by first | omega | (simp only [size_alloc, size_setB, size_drew]; omega)) ?_ ))) (Ce.h (by first | assumption | exact ⟨rfl⟩)) ?_
  refine WO_p (PS_lenS Hvad.runUnderlying77 rfl) ?_
  refine WO_p (PS_neq rfl rfl) ?_
  refine WO_nil ?_
  refine thn_normal ?_
  refine W_if rfl (fun hb2 => ?_) (fun hb2 => ?_)
  · have hb2p := hb2.h; simp only [al_ete, al_dfn, Bool.not_eq_true', Bool.not_eq_false', al_ne, Bool.not_not, al_nn] at hb2p
    have h16 : ¬ v.ttab.length = 16384 := by omega
    refine W_seq ?_
    refine W_region rfl ?_
    refine WO_p (PS_assign_int rfl) ?_
    refine WO_p (PS_assign_int rfl) ?_
    refine WO_nil ?_
    refine thn_normal ?_
    refine W_ret ?_
    refine thn_ret ?_
    refine bodyQ_ret2 Hvad.results262 rfl rfl (.int _ _) (.int _ _) rfl rfl ?_
    first
    | (rw [← hR, V.findT, if_neg h16]; exact ⟨rfl, (by repeat (first | assumption | exact Ext.refl _ | refine Ext.alloc ?_ _ | refine Ext.drew ?_ | refine Ext.setB ?_ (by first | omega | (simp only [size_alloc, size_setB, size_drew]; omega)) _ | refine Ext.trans ?_ (by assumption)))⟩)
    | (obtain ⟨m', rfl⟩ : ∃ m', m = m' + 1 := ⟨m - 1, by omega⟩; rw [← hpr, probeY, if_pos hneg]; exact ⟨rfl, by first | exact hE2 | exact hE2.drew⟩)
    | (obtain ⟨m', rfl⟩ : ∃ m', m = m' + 1 := ⟨m - 1, by omega⟩; rw [← hpr, probeY, if_neg hneg, if_pos hh]; exact ⟨rfl, hE2.drew⟩)
    | (have hm0 : m = 0 := by omega
       subst hm0; rw [← hpr, probeY]; exact ⟨rfl, hE2⟩)
  · have hb2p := hb2.h; simp only [al_ete, al_dfn, Bool.not_eq_true', Bool.not_eq_false', al_ne, Bool.not_not, al_nn] at hb2p
    have h16 : v.ttab.length = 16384 := by omega
    refine W_skip ?_
    refine thn_normal ?_
    refine W_seq ?_
    refine W_region rfl ?_
    refine WO_p (PS_move_int rfl) ?_
    refine WO_loadA _ Hvad.isAgg59 Hvad.sizeOf59 rfl (Hb.h (by repeat (first | assumption | exact Hb.newY _ _ | refine Hb.alloc ?_ | refine Hb.drew ?_ | refine Hb.ext (by assumption) ?_ | exact Hb.setSameL (by first | omega | (simp only [size_alloc, size_setB, size_drew]; omega)) | exact Hb.setSame (by assumption) | refine Hb.set (by first | omega | (simp only [size_alloc, size_setB, size_drew]; omega)) ?_ ))) (by first | omega | assumption | rfl | decide | (simp only [size_ic, Value.cells]; omega) | simp) (Xt.h (by first | assumption | exact Xt.whole rfl rfl | exact Xt.whole rfl (by simp only [size_ic, Value.cells]; omega) | exact ⟨rfl⟩)) ?_
    refine WO_call Hvad.call265 (by rfl) (Ret.mono (mixSlot_spec a K _ ha hK) ?_)
    rintro _ w1 ⟨rfl, hE1⟩
    have hB1 : Hb w1 w.heap.size (.cells (ic .u64 K) 59 (0, 0)) := Hb.ext hE1 (Hb.newY _ _)
    replace hE1 : Ext w w1 := Ext.trans (Ext.alloc (Ext.refl w) _) hE1
    refine WO_p (PS_rem_u64 rfl rfl (by omega) (by omega)) ?_
    refine WO_p (PS_assign_int rfl) ?_
    refine WO_nil ?_
    refine thn_normal ?_
    refine W_seq ?_
    refine W_seq ?_
    refine W_region rfl ?_
    refine WO_p (PS_assign_int rfl) ?_
    refine WO_nil ?_
    refine thn_normal ?_
    refine W_block ?_
    refine W_loopN (fun m ρ w' => ∃ t p : Nat, m + t = 16384 ∧ p < 16384 ∧ probeY v.tt (hitT v.temps a K) 16384 m p = R ∧ Fr [(0, .pointer (some ⟨C, 2435, none⟩)), (1, .int .i32 a), (5, .pointer (some ⟨w.heap.size, 0, none⟩)), (8, .int .u64 p), (9, .int .i64 t)] ρ ∧ Ext w w' ∧ Hb w' w.heap.size (.cells (ic .u64 K) 59 (0, 0))) 16384 ?_ ?_
    · exact ⟨0, (mixS a K % 16384).toNat, rfl, by omega, by rw [V.findT, if_pos h16] at hR; exact hR, ⟨rfl, rfl, rfl, congrArg (Value.int .u64) (by omega), rfl, trivial⟩, hE1, hB1⟩
    clear hE1 hB1 hR hblk hdt
    intro m ρ w2 hI
    obtain ⟨t, p, hmt, hp4, hpr, hF, hE2, hB2⟩ := hI
    refine W_env _ hF ?_
    have hv2 := hv.ext hE2
    obtain ⟨y, hy⟩ : ∃ y, v.ttab[p]? = some y := ⟨_, List.getElem?_eq_getElem (by omega)⟩
    have hyt : v.tt p = y := by unfold V.tt; rw [List.getD_eq_getElem?_getD, hy]; rfl
    obtain ⟨hat0, hat1⟩ := hv2.ty.ttab y (List.mem_of_getElem? hy)
    obtain ⟨bt, capt, rt, habt, hcapt, hrt, hrst, hrowt⟩ := hv2.rows.ttab.some hy
    have hdt : Ce c 27018 (.slice (some ⟨bt, 0, none⟩) v.ttab.length capt) := by have := hv2.rep.ttab; rw [habt, ttS_some hy] at this; exact this
    have hat : Ce rt (0 + p * 1) (.int .i32 (v.tt p)) := by rw [hyt]; exact hrowt.get hy (k := 0) (by decide) rfl
    rw [← hyt] at hat0 hat1
    have hlenb : Ce c 27017 (.slice (slp B.t) v.temps.length (slc B.t)) := hv2.rep.temps
    have hblk := hv2.blk
    have hlen4 := hv2.ty.lt
    refine W_seq ?_
    refine W_seq ?_
    refine W_region rfl ?_
    refine WO_p (PS_move_int rfl) ?_
    refine WO_p (PS_lss rfl rfl) ?_
    refine WO_nil ?_
    refine thn_normal ?_
    refine W_if rfl (fun hb5 => ?_) (fun hb5 => ?_)
    · have hb5p := hb5.h; simp only [al_ete, al_dfn, Bool.not_eq_true', Bool.not_eq_false', al_ne, Bool.not_not, al_nn] at hb5p
      refine W_skip ?_
      refine thn_normal ?_
      refine W_seq ?_
      refine W_block ?_
      refine W_seq ?_
      refine W_region rfl ?_
      refine WO_p (PS_move_ptr rfl) ?_
      refine WO_p (PS_nilCheck rfl) ?_
      refine WO_p (PS_fieldAddr 24583 Hvad.runUnderlying79 rfl Hvad.sizeOf77 rfl rfl) ?_
      refine WO_load (.slice _ _ _) Hvad.isAgg77 rfl (Hb.h (by repeat (first | assumption | exact Hb.newY _ _ | refine Hb.alloc ?_ | refine Hb.drew ?_ | refine Hb.ext (by assumption) ?_ | exact Hb.setSameL (by first | omega | (simp only [size_alloc, size_setB, size_drew]; omega)) | exact Hb.setSame (by assumption) | refine Hb.set (by first | omega | (simp only [size_alloc, size_setB, size_drew]; omega)) ?_ ))) (Ce.h (by first | assumption | exact ⟨rfl⟩)) ?_
      refine WO_p (PS_move_int rfl) ?_
      refine WO_p (PS_indexS Hvad.runUnderlying77 Hvad.sizeOf21 rfl rfl (by omega) (by omega)) ?_
      refine WO_load (.int _ _) Hvad.isAgg21 rfl (Hb.h (by repeat (first | assumption | exact Hb.newY _ _ | refine Hb.alloc ?_ | refine Hb.drew ?_ | refine Hb.ext (by assumption) ?_ | exact Hb.setSameL (by first | omega | (simp only [size_alloc, size_setB, size_drew]; omega)) | exact Hb.setSame (by assumption) | refine Hb.set (by first | omega | (simp only [size_alloc, size_setB, size_drew]; omega)) ?_ ))) (Ce.h (by first | assumption | exact ⟨rfl⟩)) ?_
      refine WO_p (PS_assign_int rfl) ?_
      refine WO_nil ?_
      refine thn_normal ?_
      refine W_seq ?_
      refine W_seq ?_
      refine W_region rfl ?_
      refine WO_p (PS_move_int rfl) ?_
      refine WO_p (PS_lss rfl rfl) ?_
      refine WO_nil ?_
      refine thn_normal ?_
      refine W_if rfl (fun hb7 => ?_) (fun hb7 => ?_)
      · have hb7p := hb7.h; simp only [al_ete, al_dfn, Bool.not_eq_true', Bool.not_eq_false', al_ne, Bool.not_not, al_nn] at hb7p
        have hneg := hb7p
        refine W_seq ?_
        refine W_region rfl ?_
        refine WO_p (PS_move_int rfl) ?_
        refine WO_p (PS_conv_i32n Hvad.runUnderlying26 Hvad.runUnderlying21 rfl (by omega) (by omega)) ?_
        refine WO_p (PS_assign_int rfl) ?_
        refine WO_p (PS_assign_int rfl) ?_
        refine WO_nil ?_
        refine thn_normal ?_
        refine W_ret ?_
        refine thn_ret ?_
        refine inBlk_ret ?_
        refine thn_ret ?_
        refine thn_ret ?_
        refine inBlk_ret ?_
        refine thn_ret ?_
        refine bodyQ_ret2 Hvad.results262 rfl rfl (.int _ _) (.int _ _) rfl rfl ?_
        first
        | (rw [← hR, V.findT, if_neg h16]; exact ⟨rfl, (by repeat (first | assumption | exact Ext.refl _ | refine Ext.alloc ?_ _ | refine Ext.drew ?_ | refine Ext.setB ?_ (by first | omega | (simp only [size_alloc, size_setB, size_drew]; omega)) _ | refine Ext.trans ?_ (by assumption)))⟩)
        | (obtain ⟨m', rfl⟩ : ∃ m', m = m' + 1 := ⟨m - 1, by omega⟩; rw [← hpr, probeY, if_pos hneg]; exact ⟨rfl, by first | exact hE2 | exact hE2.drew⟩)
        | (obtain ⟨m', rfl⟩ : ∃ m', m = m' + 1 := ⟨m - 1, by omega⟩; rw [← hpr, probeY, if_neg hneg, if_pos hh]; exact ⟨rfl, hE2.drew⟩)
        | (have hm0 : m = 0 := by omega
           subst hm0; rw [← hpr, probeY]; exact ⟨rfl, hE2⟩)
      · have hb7p := hb7.h; simp only [al_ete, al_dfn, Bool.not_eq_true', Bool.not_eq_false', al_ne, Bool.not_not, al_nn] at hb7p
        have hneg := hb7p
        refine W_skip ?_
        refine thn_normal ?_
        refine W_seq ?_
        refine W_seq ?_
        refine W_drawE [false, false, false, false, false, false, false, false, false, false, false, false, false, false, false, false, false, false, false, false, false, false, false, false, false, false, false, false, false, false, false, false] hmix (by kernel_rfl) rfl ?_
        refine WH_p (PS_move_int rfl) rfl ?_
        refine WH_p (PS_conv_i64n Hvad.runUnderlying21 Hvad.runUnderlying3 rfl (by omega) (by omega)) rfl ?_
        refine WH_p (PS_move_ptr rfl) rfl ?_
        refine WH_p (PS_nilCheck rfl) rfl ?_
        refine WH_p (PS_fieldAddr 24582 Hvad.runUnderlying79 rfl Hvad.sizeOf76 rfl rfl) rfl ?_
        refine WH_load (.slice _ _ _) Hvad.isAgg76 rfl (Hb.h (by repeat (first | assumption | exact Hb.newY _ _ | refine Hb.alloc ?_ | refine Hb.drew ?_ | refine Hb.ext (by assumption) ?_ | exact Hb.setSameL (by first | omega | (simp only [size_alloc, size_setB, size_drew]; omega)) | exact Hb.setSame (by assumption) | refine Hb.set (by first | omega | (simp only [size_alloc, size_setB, size_drew]; omega)) ?_ ))) (Ce.h (by first | assumption | exact ⟨rfl⟩)) ?_
        refine WH_p (PS_lenS Hvad.runUnderlying76 rfl) rfl ?_
        refine WH_p (PS_lss rfl rfl) rfl ?_
        refine WH_p (PS_move_bool rfl) rfl ?_
        refine WH_if (t := 44) rfl (fun hb9 => ?_) (fun hb9 => ?_)
        · have hb9p := hb9.h; simp only [al_ete, al_dfn, Bool.not_eq_true', Bool.not_eq_false', al_ne, Bool.not_not, al_nn] at hb9p
          obtain ⟨x, hx⟩ : ∃ x, v.temps[(v.tt p).toNat]? = some x := ⟨_, List.getElem?_eq_getElem (by omega)⟩
          clear hlenb
          obtain ⟨b, cap, r, hab, hcap, hr, hrs, hrow, hda, hbd, hil, hty, f0, f1, f2⟩ := hv2.openT hx
          have hx4 : x.key.length = 4 := hty.2.1.1
          refine WH_guardT rfl rfl hb9.h ?_
          refine WH_p (PS_move_ptr rfl) rfl ?_
          refine WH_guardT rfl rfl hb9.h ?_
          refine WH_p (PS_nilCheck rfl) rfl ?_
          refine WH_guardT rfl rfl hb9.h ?_
          refine WH_p (PS_fieldAddr 24582 Hvad.runUnderlying79 rfl Hvad.sizeOf76 rfl rfl) rfl ?_
          refine WH_guardT rfl rfl hb9.h ?_
          refine WH_load (.slice _ _ _) Hvad.isAgg76 rfl (Hb.h (by repeat (first | assumption | exact Hb.newY _ _ | refine Hb.alloc ?_ | refine Hb.drew ?_ | refine Hb.ext (by assumption) ?_ | exact Hb.setSameL (by first | omega | (simp only [size_alloc, size_setB, size_drew]; omega)) | exact Hb.setSame (by assumption) | refine Hb.set (by first | omega | (simp only [size_alloc, size_setB, size_drew]; omega)) ?_ ))) (Ce.h (by first | assumption | exact ⟨rfl⟩)) ?_
          refine WH_guardT rfl rfl hb9.h ?_
          refine WH_p (PS_move_int rfl) rfl ?_
          refine WH_guardT rfl rfl hb9.h ?_
          refine WH_p (PS_indexS Hvad.runUnderlying76 Hvad.sizeOf305 rfl rfl (by omega) (by omega)) rfl ?_
          refine WH_guardT rfl rfl hb9.h ?_
          refine WH_p (PS_fieldAddr 0 Hvad.runUnderlying305 rfl Hvad.sizeOf21 rfl rfl) rfl ?_
          refine WH_guardT rfl rfl hb9.h ?_
          refine WH_load (.int _ _) Hvad.isAgg21 rfl (Hb.h (by repeat (first | assumption | exact Hb.newY _ _ | refine Hb.alloc ?_ | refine Hb.drew ?_ | refine Hb.ext (by assumption) ?_ | exact Hb.setSameL (by first | omega | (simp only [size_alloc, size_setB, size_drew]; omega)) | exact Hb.setSame (by assumption) | refine Hb.set (by first | omega | (simp only [size_alloc, size_setB, size_drew]; omega)) ?_ ))) (Ce.h (by first | assumption | exact ⟨rfl⟩)) ?_
          refine WH_guardT rfl rfl hb9.h ?_
          refine WH_p (PS_move_int rfl) rfl ?_
          refine WH_guardT rfl rfl hb9.h ?_
          refine WH_p (PS_eql rfl rfl) rfl ?_
          refine WH_p (PS_pickT rfl hb9.h rfl) rfl ?_
          refine WH_p (PS_move_bool rfl) rfl ?_
          refine WH_if (t := 56) rfl (fun hb11 => ?_) (fun hb11 => ?_)
          · have hb11p := hb11.h; simp only [al_ete, al_dfn, Bool.not_eq_true', Bool.not_eq_false', al_ne, Bool.not_not, al_nn] at hb11p
            have hac := hb11p
            refine WH_guardT rfl rfl hb11.h ?_
            refine WH_p (PS_move_ptr rfl) rfl ?_
            refine WH_guardT rfl rfl hb11.h ?_
            refine WH_p (PS_nilCheck rfl) rfl ?_
            refine WH_guardT rfl rfl hb11.h ?_
            refine WH_p (PS_fieldAddr 24582 Hvad.runUnderlying79 rfl Hvad.sizeOf76 rfl rfl) rfl ?_
            refine WH_guardT rfl rfl hb11.h ?_
            refine WH_load (.slice _ _ _) Hvad.isAgg76 rfl (Hb.h (by repeat (first | assumption | exact Hb.newY _ _ | refine Hb.alloc ?_ | refine Hb.drew ?_ | refine Hb.ext (by assumption) ?_ | exact Hb.setSameL (by first | omega | (simp only [size_alloc, size_setB, size_drew]; omega)) | exact Hb.setSame (by assumption) | refine Hb.set (by first | omega | (simp only [size_alloc, size_setB, size_drew]; omega)) ?_ ))) (Ce.h (by first | assumption | exact ⟨rfl⟩)) ?_
            refine WH_guardT rfl rfl hb11.h ?_
            refine WH_p (PS_move_int rfl) rfl ?_
            refine WH_guardT rfl rfl hb11.h ?_
            refine WH_p (PS_indexS Hvad.runUnderlying76 Hvad.sizeOf305 rfl rfl (by omega) (by omega)) rfl ?_
            refine WH_guardT rfl rfl hb11.h ?_
            refine WH_p (PS_fieldAddr 1 Hvad.runUnderlying305 rfl Hvad.sizeOf59 rfl rfl) rfl ?_
            refine WH_guardT rfl rfl hb11.h ?_
            refine WH_loadA _ Hvad.isAgg59 Hvad.sizeOf59 rfl (Hb.h (by repeat (first | assumption | exact Hb.newY _ _ | refine Hb.alloc ?_ | refine Hb.drew ?_ | refine Hb.ext (by assumption) ?_ | exact Hb.setSameL (by first | omega | (simp only [size_alloc, size_setB, size_drew]; omega)) | exact Hb.setSame (by assumption) | refine Hb.set (by first | omega | (simp only [size_alloc, size_setB, size_drew]; omega)) ?_ ))) (by first | omega | assumption | rfl | decide | (simp only [size_ic, Value.cells]; omega) | simp) (Xt.h (by first | assumption | exact Xt.whole rfl rfl | exact Xt.whole rfl (by simp only [size_ic, Value.cells]; omega) | exact ⟨rfl⟩)) ?_
            refine WH_guardT rfl rfl hb11.h ?_
            refine WH_loadA _ Hvad.isAgg59 Hvad.sizeOf59 rfl (Hb.h (by repeat (first | assumption | exact Hb.newY _ _ | refine Hb.alloc ?_ | refine Hb.drew ?_ | refine Hb.ext (by assumption) ?_ | exact Hb.setSameL (by first | omega | (simp only [size_alloc, size_setB, size_drew]; omega)) | exact Hb.setSame (by assumption) | refine Hb.set (by first | omega | (simp only [size_alloc, size_setB, size_drew]; omega)) ?_ ))) (by first | omega | assumption | rfl | decide | (simp only [size_ic, Value.cells]; omega) | simp) (Xt.h (by first | assumption | exact Xt.whole rfl rfl | exact Xt.whole rfl (by simp only [size_ic, Value.cells]; omega) | exact ⟨rfl⟩)) ?_
            refine WH_guardT rfl rfl hb11.h ?_
            refine WH_p (PS_eqlA Hvad.underlying59 Hvad.underlying26 Hvad.sizeOf26 Hvad.eqGuardType59 rfl rfl (by first | omega | assumption | rfl | decide | (simp only [size_ic, Value.cells]; omega) | simp) (by first | omega | assumption | rfl | decide | (simp only [size_ic, Value.cells]; omega) | simp)) rfl ?_
            refine WH_p (PS_pickT rfl hb11.h rfl) rfl ?_
            refine WH_nil ?_
            refine thn_normal ?_
            refine W_if rfl (fun hb13 => ?_) (fun hb13 => ?_)
            · have hb13p := hb13.h; simp only [al_ete, al_dfn, Bool.not_eq_true', Bool.not_eq_false', al_ne, Bool.not_not, al_nn] at hb13p
              have hh : hitT v.temps a K (v.tt p) = true := by rw [hitT_true hx]; exact al_et ⟨hac, hb13p⟩
              refine W_seq ?_
              refine W_region rfl ?_
              refine WO_p (PS_move_int rfl) ?_
              refine WO_p (PS_assign_int rfl) ?_
              refine WO_p (PS_assign_int rfl) ?_
              refine WO_nil ?_
              refine thn_normal ?_
              refine W_ret ?_
              refine thn_ret ?_
              refine inBlk_ret ?_
              refine thn_ret ?_
              refine thn_ret ?_
              refine inBlk_ret ?_
              refine thn_ret ?_
              refine bodyQ_ret2 Hvad.results262 rfl rfl (.int _ _) (.int _ _) rfl rfl ?_
              first
              | (rw [← hR, V.findT, if_neg h16]; exact ⟨rfl, (by repeat (first | assumption | exact Ext.refl _ | refine Ext.alloc ?_ _ | refine Ext.drew ?_ | refine Ext.setB ?_ (by first | omega | (simp only [size_alloc, size_setB, size_drew]; omega)) _ | refine Ext.trans ?_ (by assumption)))⟩)
              | (obtain ⟨m', rfl⟩ : ∃ m', m = m' + 1 := ⟨m - 1, by omega⟩; rw [← hpr, probeY, if_pos hneg]; exact ⟨rfl, by first | exact hE2 | exact hE2.drew⟩)
              | (obtain ⟨m', rfl⟩ : ∃ m', m = m' + 1 := ⟨m - 1, by omega⟩; rw [← hpr, probeY, if_neg hneg, if_pos hh]; exact ⟨rfl, hE2.drew⟩)
              | (have hm0 : m = 0 := by omega
                 subst hm0; rw [← hpr, probeY]; exact ⟨rfl, hE2⟩)
            · have hb13p := hb13.h; simp only [al_ete, al_dfn, Bool.not_eq_true', Bool.not_eq_false', al_ne, Bool.not_not, al_nn] at hb13p
              have hh : hitT v.temps a K (v.tt p) = false := by rw [hitT_true hx]; exact al_ef (fun e => hb13p e.2)
              refine W_skip ?_
              refine thn_normal ?_
              refine W_region rfl ?_
              refine WO_p (PS_move_int rfl) ?_
              refine WO_p (PS_add_u64n rfl rfl (by omega) (by omega)) ?_
              refine WO_p (PS_rem_u64 rfl rfl (by omega) (by omega)) ?_
              refine WO_p (PS_assign_int rfl) ?_
              refine WO_nil ?_
              refine inBlk_normal ?_
              refine thn_normal ?_
              refine W_region rfl ?_
              refine WO_p (PS_move_int rfl) ?_
              refine WO_p (PS_add_i64n rfl rfl (by omega) (by omega)) ?_
              refine WO_p (PS_assign_int rfl) ?_
              refine WO_nil ?_
              refine thn_normal ?_
              obtain ⟨m', rfl⟩ : ∃ m', m = m' + 1 := ⟨m - 1, by omega⟩
              refine ⟨m', by omega, t + 1, (p + 1) % 16384, by omega, by omega, ?_, ⟨rfl, rfl, rfl, congrArg (Value.int .u64) (by omega), congrArg (Value.int .i64) (by omega), trivial⟩, hE2.drew, hB2.drew⟩
              rw [← hpr, probeY, if_neg hneg, if_neg (by rw [hh]; decide)]
          · have hb11p := hb11.h; simp only [al_ete, al_dfn, Bool.not_eq_true', Bool.not_eq_false', al_ne, Bool.not_not, al_nn] at hb11p
            have hh : hitT v.temps a K (v.tt p) = false := by rw [hitT_true hx]; exact al_ef (fun e => hb11p e.1)
            refine WH_guardF rfl rfl hb11.h ?_
            refine WH_guardF rfl rfl hb11.h ?_
            refine WH_guardF rfl rfl hb11.h ?_
            refine WH_guardF rfl rfl hb11.h ?_
            refine WH_guardF rfl rfl hb11.h ?_
            refine WH_guardF rfl rfl hb11.h ?_
            refine WH_guardF rfl rfl hb11.h ?_
            refine WH_guardF rfl rfl hb11.h ?_
            refine WH_guardF rfl rfl hb11.h ?_
            refine WH_guardF rfl rfl hb11.h ?_
            refine WH_p (PS_pickF rfl hb11.h rfl) rfl ?_
            refine WH_nil ?_
            refine thn_normal ?_
            refine W_condF rfl rfl ?_
            refine W_skip ?_
            refine thn_normal ?_
            refine W_region rfl ?_
            refine WO_p (PS_move_int rfl) ?_
            refine WO_p (PS_add_u64n rfl rfl (by omega) (by omega)) ?_
            refine WO_p (PS_rem_u64 rfl rfl (by omega) (by omega)) ?_
            refine WO_p (PS_assign_int rfl) ?_
            refine WO_nil ?_
            refine inBlk_normal ?_
            refine thn_normal ?_
            refine W_region rfl ?_
            refine WO_p (PS_move_int rfl) ?_
            refine WO_p (PS_add_i64n rfl rfl (by omega) (by omega)) ?_
            refine WO_p (PS_assign_int rfl) ?_
            refine WO_nil ?_
            refine thn_normal ?_
            obtain ⟨m', rfl⟩ : ∃ m', m = m' + 1 := ⟨m - 1, by omega⟩
            refine ⟨m', by omega, t + 1, (p + 1) % 16384, by omega, by omega, ?_, ⟨rfl, rfl, rfl, congrArg (Value.int .u64) (by omega), congrArg (Value.int .i64) (by omega), trivial⟩, hE2.drew, hB2.drew⟩
            rw [← hpr, probeY, if_neg hneg, if_neg (by rw [hh]; decide)]
        · have hb9p := hb9.h; simp only [al_ete, al_dfn, Bool.not_eq_true', Bool.not_eq_false', al_ne, Bool.not_not, al_nn] at hb9p
          have hh : hitT v.temps a K (v.tt p) = false := hitT_none (by omega)
          refine WH_guardF rfl rfl hb9.h ?_
          refine WH_guardF rfl rfl hb9.h ?_
          refine WH_guardF rfl rfl hb9.h ?_
          refine WH_guardF rfl rfl hb9.h ?_
          refine WH_guardF rfl rfl hb9.h ?_
          refine WH_guardF rfl rfl hb9.h ?_
          refine WH_guardF rfl rfl hb9.h ?_
          refine WH_guardF rfl rfl hb9.h ?_
          refine WH_guardF rfl rfl hb9.h ?_
          refine WH_guardF rfl rfl hb9.h ?_
          refine WH_p (PS_pickF rfl hb9.h rfl) rfl ?_
          refine WH_p (PS_move_bool rfl) rfl ?_
          refine WH_guardF rfl rfl rfl ?_
          refine WH_guardF rfl rfl rfl ?_
          refine WH_guardF rfl rfl rfl ?_
          refine WH_guardF rfl rfl rfl ?_
          refine WH_guardF rfl rfl rfl ?_
          refine WH_guardF rfl rfl rfl ?_
          refine WH_guardF rfl rfl rfl ?_
          refine WH_guardF rfl rfl rfl ?_
          refine WH_guardF rfl rfl rfl ?_
          refine WH_guardF rfl rfl rfl ?_
          refine WH_p (PS_pickF rfl rfl rfl) rfl ?_
          refine WH_nil ?_
          refine thn_normal ?_
          refine W_condF rfl rfl ?_
          refine W_skip ?_
          refine thn_normal ?_
          refine W_region rfl ?_
          refine WO_p (PS_move_int rfl) ?_
          refine WO_p (PS_add_u64n rfl rfl (by omega) (by omega)) ?_
          refine WO_p (PS_rem_u64 rfl rfl (by omega) (by omega)) ?_
          refine WO_p (PS_assign_int rfl) ?_
          refine WO_nil ?_
          refine inBlk_normal ?_
          refine thn_normal ?_
          refine W_region rfl ?_
          refine WO_p (PS_move_int rfl) ?_
          refine WO_p (PS_add_i64n rfl rfl (by omega) (by omega)) ?_
          refine WO_p (PS_assign_int rfl) ?_
          refine WO_nil ?_
          refine thn_normal ?_
          obtain ⟨m', rfl⟩ : ∃ m', m = m' + 1 := ⟨m - 1, by omega⟩
          refine ⟨m', by omega, t + 1, (p + 1) % 16384, by omega, by omega, ?_, ⟨rfl, rfl, rfl, congrArg (Value.int .u64) (by omega), congrArg (Value.int .i64) (by omega), trivial⟩, hE2.drew, hB2.drew⟩
          rw [← hpr, probeY, if_neg hneg, if_neg (by rw [hh]; decide)]
    · have hb5p := hb5.h; simp only [al_ete, al_dfn, Bool.not_eq_true', Bool.not_eq_false', al_ne, Bool.not_not, al_nn] at hb5p
      refine W_exit ?_
      refine thn_exit ?_
      refine thn_exit ?_
      refine inBlk_exit ?_
      refine thn_normal ?_
      refine W_seq ?_
      refine W_region rfl ?_
      refine WO_p (PS_assign_int rfl) ?_
      refine WO_p (PS_assign_int rfl) ?_
      refine WO_nil ?_
      refine thn_normal ?_
      refine W_ret ?_
      refine bodyQ_ret2 Hvad.results262 rfl rfl (.int _ _) (.int _ _) rfl rfl ?_
      first
      | (rw [← hR, V.findT, if_neg h16]; exact ⟨rfl, (by repeat (first | assumption | exact Ext.refl _ | refine Ext.alloc ?_ _ | refine Ext.drew ?_ | refine Ext.setB ?_ (by first | omega | (simp only [size_alloc, size_setB, size_drew]; omega)) _ | refine Ext.trans ?_ (by assumption)))⟩)
      | (obtain ⟨m', rfl⟩ : ∃ m', m = m' + 1 := ⟨m - 1, by omega⟩; rw [← hpr, probeY, if_pos hneg]; exact ⟨rfl, by first | exact hE2 | exact hE2.drew⟩)
      | (obtain ⟨m', rfl⟩ : ∃ m', m = m' + 1 := ⟨m - 1, by omega⟩; rw [← hpr, probeY, if_neg hneg, if_pos hh]; exact ⟨rfl, hE2.drew⟩)
      | (have hm0 : m = 0 := by omega
         subst hm0; rw [← hpr, probeY]; exact ⟨rfl, hE2⟩)

end Go.Proofs.YgvadwGreat
