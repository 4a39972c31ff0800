import Derived.Test.YgvadwGreatVr
namespace Go.Proofs.YgvadwGreat
set_option linter.unusedSimpArgs false
set_option linter.unusedVariables false

set_option maxRecDepth 10000 in
theorem room_spec (C : Nat) (c : Array Value) (v : V) (B : VB) (β : Option Nat) (w : World) (hv : VS w C c v B β) : Ret Hvad.prog 73 #[.pointer (some ⟨C, 2435, none⟩)] w fun u w' => u = .bool (decide (v.journal.length < 65536)) ∧ Ext w w' := by
  have hblk := hv.blk
  have hd_journal : Ce c 10629 (.slice (slp B.j) v.journal.length (slc B.j)) := hv.rep.journal
  have hlj := hv.ty.lj
  refine Ret_of_W Hvad.func73 rfl rfl ?_
  refine W_seq ?_
  refine W_region rfl ?_
  refine WO_p (PS_assign_bool rfl) ?_
  refine WO_nil ?_
  refine thn_normal ?_
  refine W_seq ?_
  refine W_region rfl ?_
  refine WO_p (PS_move_ptr rfl) ?_
  refine WO_p (PS_nilCheck rfl) ?_
  refine WO_p (PS_fieldAddr 8194 Hvad.runUnderlying79 rfl Hvad.sizeOf73 rfl rfl) ?_
  refine WO_load (.slice _ _ _) Hvad.isAgg73 rfl (Hb.h (by repeat (first | assumption | exact Hb.newY _ _ | refine Hb.alloc ?_ | refine Hb.drew ?_ | refine Hb.ext (by assumption) ?_ | exact Hb.setSameL (by first | omega | (simp only [size_alloc, size_setB, size_drew]; omega)) | exact Hb.setSame (by assumption) | refine Hb.set (by first | omega | (simp only [size_alloc, size_setB, size_drew]; omega)) ?_ ))) (Ce.h (by first | assumption | exact ⟨rfl⟩)) ?_
  refine WO_p (PS_lenS Hvad.runUnderlying73 rfl) ?_
  refine WO_p (PS_lss rfl rfl) ?_
  refine WO_p (PS_assign_bool rfl) ?_
  refine WO_nil ?_
  refine thn_normal ?_
  refine W_ret ?_
  refine bodyQ_ret1 Hvad.results73 rfl (.bool _) rfl ?_
  exact ⟨congrArg Value.bool (al_dd.2 (by omega)), (by repeat (first | assumption | exact Ext.refl _ | refine Ext.alloc ?_ _ | refine Ext.drew ?_ | refine Ext.setB ?_ (by first | omega | (simp only [size_alloc, size_setB, size_drew]; omega)) _ | refine Ext.trans ?_ (by assumption)))⟩

set_option maxRecDepth 10000 in
theorem acct_spec (C : Nat) (c : Array Value) (v : V) (B : VB) (β : Option Nat) (A : List Int) (w : World) (hv : VS w C c v B β) (hA : By A 20) : Ret Hvad.prog 53 #[.pointer (some ⟨C, 2435, none⟩), .agg (ic .u8 A)] w fun u w' => u = .tuple #[.int .i32 (v.acct A).1.1, .bool (v.acct A).1.2] ∧ VRet w C c B β w' (v.acct A).2 := by
  have hAl := hA.1
  obtain ⟨hr0, hr1, hr2, hr3⟩ := findA_range v A
  have hla := hv.ty.la
  have hen : (encA ⟨A, 0, [0, 0, 0, 0], (none, 0, 0), false, false, false⟩).toArray.size = 29 := by simp [encA, hAl]
  refine Ret_of_W Hvad.func53 rfl rfl ?_
  refine W_seq ?_
  refine W_region rfl ?_
  refine WO_box (.agg _) rfl ?_
  refine WO_p (PS_assign_int rfl) ?_
  refine WO_p (PS_assign_bool rfl) ?_
  refine WO_nil ?_
  refine thn_normal ?_
  refine W_seq ?_
  refine W_region rfl ?_
  refine WO_p (PS_move_ptr rfl) ?_
  refine WO_loadA _ Hvad.isAgg25 Hvad.sizeOf25 rfl (Hb.h (by repeat (first | assumption | exact Hb.newY _ _ | refine Hb.alloc ?_ | refine Hb.drew ?_ | refine Hb.ext (by assumption) ?_ | exact Hb.setSameL (by first | omega | (simp only [size_alloc, size_setB, size_drew]; omega)) | exact Hb.setSame (by assumption) | refine Hb.set (by first | omega | (simp only [size_alloc, size_setB, size_drew]; omega)) ?_ ))) (by first | omega | assumption | rfl | decide | (simp only [size_ic, Value.cells]; omega) | simp) (Xt.h (by first | assumption | exact Xt.whole rfl rfl | exact Xt.whole rfl (by simp only [size_ic, Value.cells]; omega) | exact ⟨rfl⟩)) ?_
  refine WO_call Hvad.call75 (by rfl) (Ret.mono (findAcct_spec C c v B β A _ (hv.ext (by repeat (first | assumption | exact Ext.refl _ | refine Ext.alloc ?_ _ | refine Ext.drew ?_ | exact Ext.trans (by assumption) (by assumption)))) hA) ?_)
  rintro _ w1 ⟨rfl, hE1⟩
  have hB1 : Hb w1 w.heap.size (.cells (ic .u8 A) 25 (0, 0)) := Hb.ext hE1 (Hb.newY _ _)
  replace hE1 : Ext w w1 := Ext.trans (Ext.alloc (Ext.refl w) _) hE1
  have hv1 := hv.ext hE1
  have hblk := hv1.blk
  have hd_accts : Ce c 2435 (.slice (slp B.a) v.accts.length (slc B.a)) := hv.rep.accts
  refine WO_p (PS_move_tuple rfl) ?_
  refine WO_p (PS_extract_int rfl rfl) ?_
  refine WO_p (PS_extract_int rfl rfl) ?_
  refine WO_p (PS_assign_int rfl) ?_
  refine WO_p (PS_assign_int rfl) ?_
  refine WO_nil ?_
  refine thn_normal ?_
  refine W_seq ?_
  refine W_seq ?_
  refine W_region rfl ?_
  refine WO_p (PS_move_int rfl) ?_
  refine WO_p (PS_geq rfl rfl) ?_
  refine WO_nil ?_
  refine thn_normal ?_
  refine W_if rfl (fun hb3 => ?_) (fun hb3 => ?_)
  · have hb3p := hb3.h; simp only [al_ete, al_dfn, Bool.not_eq_true', Bool.not_eq_false', al_ne, Bool.not_not, al_nn] at hb3p
    have h15 := hb3p
    refine W_seq ?_
    refine W_region rfl ?_
    refine WO_p (PS_move_int rfl) ?_
    refine WO_p (PS_assign_int rfl) ?_
    refine WO_p (PS_assign_bool rfl) ?_
    refine WO_nil ?_
    refine thn_normal ?_
    refine W_ret ?_
    refine thn_ret ?_
    refine bodyQ_ret2 Hvad.results53 rfl rfl (.int _ _) (.bool _) rfl rfl ?_
    first
    | (rw [V.acct, if_pos h15]; exact ⟨rfl, VRet.ext hv (by repeat (first | assumption | exact Ext.refl _ | refine Ext.alloc ?_ _ | refine Ext.drew ?_ | refine Ext.setB ?_ (by first | omega | (simp only [size_alloc, size_setB, size_drew]; omega)) _ | refine Ext.trans ?_ (by assumption)))⟩)
    | (rw [V.acct, if_neg h15, if_pos (by omega)]; exact ⟨rfl, VRet.ext hv (by repeat (first | assumption | exact Ext.refl _ | refine Ext.alloc ?_ _ | refine Ext.drew ?_ | refine Ext.setB ?_ (by first | omega | (simp only [size_alloc, size_setB, size_drew]; omega)) _ | refine Ext.trans ?_ (by assumption)))⟩)
    | (rw [V.acct, if_neg h15, if_neg h26]; exact ⟨rfl, ⟨_, _, hV8, (VStep.pre (by repeat (first | assumption | exact Ext.refl _ | refine Ext.alloc ?_ _ | refine Ext.drew ?_ | refine Ext.setB ?_ (by first | omega | (simp only [size_alloc, size_setB, size_drew]; omega)) _ | refine Ext.trans ?_ (by assumption))) hS7).trans hS8⟩⟩)
  · have hb3p := hb3.h; simp only [al_ete, al_dfn, Bool.not_eq_true', Bool.not_eq_false', al_ne, Bool.not_not, al_nn] at hb3p
    have h15 := hb3p
    refine W_skip ?_
    refine thn_normal ?_
    refine W_seq ?_
    refine W_seq ?_
    refine W_region rfl ?_
    refine WO_p (PS_move_int rfl) ?_
    refine WO_p (PS_lss rfl rfl) ?_
    refine WO_p (PS_move_bool rfl) ?_
    refine WO_if (t := 19) rfl (fun hb5 => ?_) (fun hb5 => ?_)
    · have hb5p := hb5.h; simp only [al_ete, al_dfn, Bool.not_eq_true', Bool.not_eq_false', al_ne, Bool.not_not, al_nn] at hb5p
      refine WO_guardF rfl rfl hb5.h ?_
      refine WO_guardF rfl rfl hb5.h ?_
      refine WO_guardF rfl rfl hb5.h ?_
      refine WO_guardF rfl rfl hb5.h ?_
      refine WO_guardF rfl rfl hb5.h ?_
      refine WO_guardF rfl rfl hb5.h ?_
      refine WO_p (PS_pickT rfl hb5.h rfl) ?_
      refine WO_nil ?_
      refine thn_normal ?_
      refine W_condT rfl rfl ?_
      refine W_seq ?_
      refine W_region rfl ?_
      refine WO_p (PS_assign_int rfl) ?_
      refine WO_p (PS_assign_bool rfl) ?_
      refine WO_nil ?_
      refine thn_normal ?_
      refine W_ret ?_
      refine thn_ret ?_
      refine bodyQ_ret2 Hvad.results53 rfl rfl (.int _ _) (.bool _) rfl rfl ?_
      first
      | (rw [V.acct, if_pos h15]; exact ⟨rfl, VRet.ext hv (by repeat (first | assumption | exact Ext.refl _ | refine Ext.alloc ?_ _ | refine Ext.drew ?_ | refine Ext.setB ?_ (by first | omega | (simp only [size_alloc, size_setB, size_drew]; omega)) _ | refine Ext.trans ?_ (by assumption)))⟩)
      | (rw [V.acct, if_neg h15, if_pos (by omega)]; exact ⟨rfl, VRet.ext hv (by repeat (first | assumption | exact Ext.refl _ | refine Ext.alloc ?_ _ | refine Ext.drew ?_ | refine Ext.setB ?_ (by first | omega | (simp only [size_alloc, size_setB, size_drew]; omega)) _ | refine Ext.trans ?_ (by assumption)))⟩)
      | (rw [V.acct, if_neg h15, if_neg h26]; exact ⟨rfl, ⟨_, _, hV8, (VStep.pre (by repeat (first | assumption | exact Ext.refl _ | refine Ext.alloc ?_ _ | refine Ext.drew ?_ | refine Ext.setB ?_ (by first | omega | (simp only [size_alloc, size_setB, size_drew]; omega)) _ | refine Ext.trans ?_ (by assumption))) hS7).trans hS8⟩⟩)
    · have hb5p := hb5.h; simp only [al_ete, al_dfn, Bool.not_eq_true', Bool.not_eq_false', al_ne, Bool.not_not, al_nn] at hb5p
      refine WO_guardT rfl rfl hb5.h ?_
      refine WO_p (PS_move_ptr rfl) ?_
      refine WO_guardT rfl rfl hb5.h ?_
      refine WO_p (PS_nilCheck rfl) ?_
      refine WO_guardT rfl rfl hb5.h ?_
      refine WO_p (PS_fieldAddr 0 Hvad.runUnderlying79 rfl Hvad.sizeOf70 rfl rfl) ?_
      refine WO_guardT rfl rfl hb5.h ?_
      refine WO_load (.slice _ _ _) Hvad.isAgg70 rfl (Hb.h (by repeat (first | assumption | exact Hb.newY _ _ | refine Hb.alloc ?_ | refine Hb.drew ?_ | refine Hb.ext (by assumption) ?_ | exact Hb.setSameL (by first | omega | (simp only [size_alloc, size_setB, size_drew]; omega)) | exact Hb.setSame (by assumption) | refine Hb.set (by first | omega | (simp only [size_alloc, size_setB, size_drew]; omega)) ?_ ))) (Ce.h (by first | assumption | exact ⟨rfl⟩)) ?_
      refine WO_guardT rfl rfl hb5.h ?_
      refine WO_p (PS_lenS Hvad.runUnderlying70 rfl) ?_
      refine WO_guardT rfl rfl hb5.h ?_
      refine WO_p (PS_geq rfl rfl) ?_
      refine WO_p (PS_pickF rfl hb5.h rfl) ?_
      refine WO_nil ?_
      refine thn_normal ?_
      refine W_if rfl (fun hb7 => ?_) (fun hb7 => ?_)
      · have hb7p := hb7.h; simp only [al_ete, al_dfn, Bool.not_eq_true', Bool.not_eq_false', al_ne, Bool.not_not, al_nn] at hb7p
        have h26 : (v.findA A).2 < 0 ∨ 2560 ≤ v.accts.length := by omega
        refine W_seq ?_
        refine W_region rfl ?_
        refine WO_p (PS_assign_int rfl) ?_
        refine WO_p (PS_assign_bool rfl) ?_
        refine WO_nil ?_
        refine thn_normal ?_
        refine W_ret ?_
        refine thn_ret ?_
        refine bodyQ_ret2 Hvad.results53 rfl rfl (.int _ _) (.bool _) rfl rfl ?_
        first
        | (rw [V.acct, if_pos h15]; exact ⟨rfl, VRet.ext hv (by repeat (first | assumption | exact Ext.refl _ | refine Ext.alloc ?_ _ | refine Ext.drew ?_ | refine Ext.setB ?_ (by first | omega | (simp only [size_alloc, size_setB, size_drew]; omega)) _ | refine Ext.trans ?_ (by assumption)))⟩)
        | (rw [V.acct, if_neg h15, if_pos (by omega)]; exact ⟨rfl, VRet.ext hv (by repeat (first | assumption | exact Ext.refl _ | refine Ext.alloc ?_ _ | refine Ext.drew ?_ | refine Ext.setB ?_ (by first | omega | (simp only [size_alloc, size_setB, size_drew]; omega)) _ | refine Ext.trans ?_ (by assumption)))⟩)
        | (rw [V.acct, if_neg h15, if_neg h26]; exact ⟨rfl, ⟨_, _, hV8, (VStep.pre (by repeat (first | assumption | exact Ext.refl _ | refine Ext.alloc ?_ _ | refine Ext.drew ?_ | refine Ext.setB ?_ (by first | omega | (simp only [size_alloc, size_setB, size_drew]; omega)) _ | refine Ext.trans ?_ (by assumption))) hS7).trans hS8⟩⟩)
      · have hb7p := hb7.h; simp only [al_ete, al_dfn, Bool.not_eq_true', Bool.not_eq_false', al_ne, Bool.not_not, al_nn] at hb7p
        have h26 : ¬ ((v.findA A).2 < 0 ∨ 2560 ≤ v.accts.length) := by omega
        refine W_skip ?_
        refine thn_normal ?_
        refine W_seq ?_
        refine W_region rfl ?_
        refine WO_p (PS_move_ptr rfl) ?_
        refine WO_p (PS_nilCheck rfl) ?_
        refine WO_p (PS_fieldAddr 0 Hvad.runUnderlying79 rfl Hvad.sizeOf70 rfl rfl) ?_
        refine WO_load (.slice _ _ _) Hvad.isAgg70 rfl (Hb.h (by repeat (first | assumption | exact Hb.newY _ _ | refine Hb.alloc ?_ | refine Hb.drew ?_ | refine Hb.ext (by assumption) ?_ | exact Hb.setSameL (by first | omega | (simp only [size_alloc, size_setB, size_drew]; omega)) | exact Hb.setSame (by assumption) | refine Hb.set (by first | omega | (simp only [size_alloc, size_setB, size_drew]; omega)) ?_ ))) (Ce.h (by first | assumption | exact ⟨rfl⟩)) ?_
        refine WO_p (PS_lenS Hvad.runUnderlying70 rfl) ?_
        refine WO_p (PS_conv_i32n Hvad.runUnderlying3 Hvad.runUnderlying21 rfl (by omega) (by omega)) ?_
        refine WO_p (PS_assign_int rfl) ?_
        refine WO_nil ?_
        refine thn_normal ?_
        refine W_seq ?_
        refine W_drawE [false, false, false, false, false, false, false, true, false, false, false, false] hmix (by kernel_rfl) rfl ?_
        refine WH_p (PS_move_ptr rfl) rfl ?_
        refine WH_p (PS_move_ptr rfl) rfl ?_
        refine WH_p (PS_nilCheck rfl) rfl ?_
        refine WH_p (PS_fieldAddr 0 Hvad.runUnderlying79 rfl Hvad.sizeOf70 rfl rfl) rfl ?_
        refine WH_load (.slice _ _ _) Hvad.isAgg70 rfl (Hb.h (by repeat (first | assumption | exact Hb.newY _ _ | refine Hb.alloc ?_ | refine Hb.drew ?_ | refine Hb.ext (by assumption) ?_ | exact Hb.setSameL (by first | omega | (simp only [size_alloc, size_setB, size_drew]; omega)) | exact Hb.setSame (by assumption) | refine Hb.set (by first | omega | (simp only [size_alloc, size_setB, size_drew]; omega)) ?_ ))) (Ce.h (by first | assumption | exact ⟨rfl⟩)) ?_
        refine WH_loadA _ Hvad.isAgg25 Hvad.sizeOf25 rfl (Hb.h (by repeat (first | assumption | exact Hb.newY _ _ | refine Hb.alloc ?_ | refine Hb.drew ?_ | refine Hb.ext (by assumption) ?_ | exact Hb.setSameL (by first | omega | (simp only [size_alloc, size_setB, size_drew]; omega)) | exact Hb.setSame (by assumption) | refine Hb.set (by first | omega | (simp only [size_alloc, size_setB, size_drew]; omega)) ?_ ))) (by first | omega | assumption | rfl | decide | (simp only [size_ic, Value.cells]; omega) | simp) (Xt.h (by first | assumption | exact Xt.whole rfl rfl | exact Xt.whole rfl (by simp only [size_ic, Value.cells]; omega) | exact ⟨rfl⟩)) ?_
        refine WH_p (PS_b149_0 rfl hA.1) rfl ?_
        refine WH_buildSlice1 Hvad.runUnderlying70 Hvad.sizeOf149 Hvad.zeroValue149 rfl (by first | omega | assumption | rfl | decide | (simp only [size_ic, Value.cells]; omega) | simp) (by decide) (by decide) (fun _ => (by repeat (first | assumption | exact Ext.refl _ | refine Ext.alloc ?_ _ | refine Ext.drew ?_ | exact Ext.trans (by assumption) (by assumption)))) ?_
        refine WH_push_accts (hv1.ext (by repeat (first | assumption | exact Ext.refl _ | refine Ext.alloc ?_ _ | refine Ext.drew ?_ | exact Ext.trans (by assumption) (by assumption)))) rfl rfl (by simpa using hen) (Hb.newY _ _) (newA_ty hA) (Or.inl ⟨rfl, rfl⟩) (by omega) ?_
        intro s' wA hC hV
        obtain ⟨hV7, hS7⟩ := hV
        refine WH_p (PS_nilCheck rfl) rfl ?_
        refine WH_p (PS_fieldAddr 0 Hvad.runUnderlying79 rfl Hvad.sizeOf70 rfl rfl) rfl ?_
        refine WH_store1 Hvad.sizeOf70 rfl (v := slv _ _) rfl hC.h rfl (by rw [hv.rep.size]; decide) rfl (fun h => by cases h) ?_
        refine WH_nil ?_
        refine thn_normal ?_
        refine W_seq ?_
        refine W_region rfl ?_
        refine WO_p (PS_move_ptr rfl) ?_
        refine WO_p (PS_move_int rfl) ?_
        refine WO_p (PS_move_int rfl) ?_
        refine WO_p (PS_nilCheck rfl) ?_
        refine WO_p (PS_fieldAddr 2 Hvad.runUnderlying79 rfl Hvad.sizeOf72 rfl rfl) ?_
        refine WO_p (PS_indexA Hvad.runUnderlying72 Hvad.sizeOf21 rfl rfl (by omega) (by omega)) ?_
        have hC8 := hV7.blk
        have hC8s := hV7.rep.size
        refine WO_store1 Hvad.sizeOf21 rfl (v := .int _ _) rfl hC8.h rfl (by omega) rfl ?_
        obtain ⟨hV8, hS8⟩ := hV7.put_atab (v.findA A).2.toNat v.accts.length (by omega) (by unfold I32; omega)
        refine WO_nil ?_
        refine thn_normal ?_
        refine W_seq ?_
        refine W_region rfl ?_
        refine WO_p (PS_move_int rfl) ?_
        refine WO_p (PS_assign_int rfl) ?_
        refine WO_p (PS_assign_bool rfl) ?_
        refine WO_nil ?_
        refine thn_normal ?_
        refine W_ret ?_
        refine bodyQ_ret2 Hvad.results53 rfl rfl (.int _ _) (.bool _) rfl rfl ?_
        first
        | (rw [V.acct, if_pos h15]; exact ⟨rfl, VRet.ext hv (by repeat (first | assumption | exact Ext.refl _ | refine Ext.alloc ?_ _ | refine Ext.drew ?_ | refine Ext.setB ?_ (by first | omega | (simp only [size_alloc, size_setB, size_drew]; omega)) _ | refine Ext.trans ?_ (by assumption)))⟩)
        | (rw [V.acct, if_neg h15, if_pos (by omega)]; exact ⟨rfl, VRet.ext hv (by repeat (first | assumption | exact Ext.refl _ | refine Ext.alloc ?_ _ | refine Ext.drew ?_ | refine Ext.setB ?_ (by first | omega | (simp only [size_alloc, size_setB, size_drew]; omega)) _ | refine Ext.trans ?_ (by assumption)))⟩)
        | (rw [V.acct, if_neg h15, if_neg h26]; exact ⟨rfl, ⟨_, _, hV8, (VStep.pre (by repeat (first | assumption | exact Ext.refl _ | refine Ext.alloc ?_ _ | refine Ext.drew ?_ | refine Ext.setB ?_ (by first | omega | (simp only [size_alloc, size_setB, size_drew]; omega)) _ | refine Ext.trans ?_ (by assumption))) hS7).trans hS8⟩⟩)

set_option maxRecDepth 10000 in
theorem slot_spec (C : Nat) (c : Array Value) (v : V) (B : VB) (β : Option Nat) (a : Int) (K : List Int) (w : World) (hv : VS w C c v B β) (ha : I32 a) (hK : Wd K) : Ret Hvad.prog 55 #[.pointer (some ⟨C, 2435, none⟩), .int .i32 a, .agg (ic .u64 K)] w fun u w' => u = .tuple #[.int .i32 (v.slot a K).1.1, .bool (v.slot a K).1.2] ∧ VRet w C c B β w' (v.slot a K).2 := by
  have hKl := hK.1
  obtain ⟨hr0, hr1, hr2, hr3⟩ := findS_range v a K
  have hla := hv.ty.ls
  have hen : (encS ⟨a, K, [0, 0, 0, 0], [0, 0, 0, 0], false⟩).toArray.size = 14 := by simp [encS, hKl]
  refine Ret_of_W Hvad.func55 rfl rfl ?_
  refine W_seq ?_
  refine W_region rfl ?_
  refine WO_box (.agg _) rfl ?_
  refine WO_p (PS_assign_int rfl) ?_
  refine WO_p (PS_assign_bool rfl) ?_
  refine WO_nil ?_
  refine thn_normal ?_
  refine W_seq ?_
  refine W_region rfl ?_
  refine WO_p (PS_move_ptr rfl) ?_
  refine WO_p (PS_move_int rfl) ?_
  refine WO_loadA _ Hvad.isAgg59 Hvad.sizeOf59 rfl (Hb.h (by repeat (first | assumption | exact Hb.newY _ _ | refine Hb.alloc ?_ | refine Hb.drew ?_ | refine Hb.ext (by assumption) ?_ | exact Hb.setSameL (by first | omega | (simp only [size_alloc, size_setB, size_drew]; omega)) | exact Hb.setSame (by assumption) | refine Hb.set (by first | omega | (simp only [size_alloc, size_setB, size_drew]; omega)) ?_ ))) (by first | omega | assumption | rfl | decide | (simp only [size_ic, Value.cells]; omega) | simp) (Xt.h (by first | assumption | exact Xt.whole rfl rfl | exact Xt.whole rfl (by simp only [size_ic, Value.cells]; omega) | exact ⟨rfl⟩)) ?_
  refine WO_call Hvad.call115 (by rfl) (Ret.mono (findSlot_spec C c v B β a K _ (hv.ext (by repeat (first | assumption | exact Ext.refl _ | refine Ext.alloc ?_ _ | refine Ext.drew ?_ | exact Ext.trans (by assumption) (by assumption)))) ha hK) ?_)
  rintro _ w1 ⟨rfl, hE1⟩
  have hB1 : Hb w1 w.heap.size (.cells (ic .u64 K) 59 (0, 0)) := Hb.ext hE1 (Hb.newY _ _)
  replace hE1 : Ext w w1 := Ext.trans (Ext.alloc (Ext.refl w) _) hE1
  have hv1 := hv.ext hE1
  have hblk := hv1.blk
  have hd_slots : Ce c 2436 (.slice (slp B.s) v.slots.length (slc B.s)) := hv.rep.slots
  refine WO_p (PS_move_tuple rfl) ?_
  refine WO_p (PS_extract_int rfl rfl) ?_
  refine WO_p (PS_extract_int rfl rfl) ?_
  refine WO_p (PS_assign_int rfl) ?_
  refine WO_p (PS_assign_int rfl) ?_
  refine WO_nil ?_
  refine thn_normal ?_
  refine W_seq ?_
  refine W_seq ?_
  refine W_region rfl ?_
  refine WO_p (PS_move_int rfl) ?_
  refine WO_p (PS_geq rfl rfl) ?_
  refine WO_nil ?_
  refine thn_normal ?_
  refine W_if rfl (fun hb3 => ?_) (fun hb3 => ?_)
  · have hb3p := hb3.h; simp only [al_ete, al_dfn, Bool.not_eq_true', Bool.not_eq_false', al_ne, Bool.not_not, al_nn] at hb3p
    have h15 := hb3p
    refine W_seq ?_
    refine W_region rfl ?_
    refine WO_p (PS_move_int rfl) ?_
    refine WO_p (PS_assign_int rfl) ?_
    refine WO_p (PS_assign_bool rfl) ?_
    refine WO_nil ?_
    refine thn_normal ?_
    refine W_ret ?_
    refine thn_ret ?_
    refine bodyQ_ret2 Hvad.results55 rfl rfl (.int _ _) (.bool _) rfl rfl ?_
    first
    | (rw [V.slot, if_pos h15]; exact ⟨rfl, VRet.ext hv (by repeat (first | assumption | exact Ext.refl _ | refine Ext.alloc ?_ _ | refine Ext.drew ?_ | refine Ext.setB ?_ (by first | omega | (simp only [size_alloc, size_setB, size_drew]; omega)) _ | refine Ext.trans ?_ (by assumption)))⟩)
    | (rw [V.slot, if_neg h15, if_pos (by omega)]; exact ⟨rfl, VRet.ext hv (by repeat (first | assumption | exact Ext.refl _ | refine Ext.alloc ?_ _ | refine Ext.drew ?_ | refine Ext.setB ?_ (by first | omega | (simp only [size_alloc, size_setB, size_drew]; omega)) _ | refine Ext.trans ?_ (by assumption)))⟩)
    | (rw [V.slot, if_neg h15, if_neg h26]; exact ⟨rfl, ⟨_, _, hV8, (VStep.pre (by repeat (first | assumption | exact Ext.refl _ | refine Ext.alloc ?_ _ | refine Ext.drew ?_ | refine Ext.setB ?_ (by first | omega | (simp only [size_alloc, size_setB, size_drew]; omega)) _ | refine Ext.trans ?_ (by assumption))) hS7).trans hS8⟩⟩)
  · have hb3p := hb3.h; simp only [al_ete, al_dfn, Bool.not_eq_true', Bool.not_eq_false', al_ne, Bool.not_not, al_nn] at hb3p
    have h15 := hb3p
    refine W_skip ?_
    refine thn_normal ?_
    refine W_seq ?_
    refine W_seq ?_
    refine W_region rfl ?_
    refine WO_p (PS_move_int rfl) ?_
    refine WO_p (PS_lss rfl rfl) ?_
    refine WO_p (PS_move_bool rfl) ?_
    refine WO_if (t := 22) rfl (fun hb5 => ?_) (fun hb5 => ?_)
    · have hb5p := hb5.h; simp only [al_ete, al_dfn, Bool.not_eq_true', Bool.not_eq_false', al_ne, Bool.not_not, al_nn] at hb5p
      refine WO_guardF rfl rfl hb5.h ?_
      refine WO_guardF rfl rfl hb5.h ?_
      refine WO_guardF rfl rfl hb5.h ?_
      refine WO_guardF rfl rfl hb5.h ?_
      refine WO_guardF rfl rfl hb5.h ?_
      refine WO_guardF rfl rfl hb5.h ?_
      refine WO_p (PS_pickT rfl hb5.h rfl) ?_
      refine WO_nil ?_
      refine thn_normal ?_
      refine W_condT rfl rfl ?_
      refine W_seq ?_
      refine W_region rfl ?_
      refine WO_p (PS_assign_int rfl) ?_
      refine WO_p (PS_assign_bool rfl) ?_
      refine WO_nil ?_
      refine thn_normal ?_
      refine W_ret ?_
      refine thn_ret ?_
      refine bodyQ_ret2 Hvad.results55 rfl rfl (.int _ _) (.bool _) rfl rfl ?_
      first
      | (rw [V.slot, if_pos h15]; exact ⟨rfl, VRet.ext hv (by repeat (first | assumption | exact Ext.refl _ | refine Ext.alloc ?_ _ | refine Ext.drew ?_ | refine Ext.setB ?_ (by first | omega | (simp only [size_alloc, size_setB, size_drew]; omega)) _ | refine Ext.trans ?_ (by assumption)))⟩)
      | (rw [V.slot, if_neg h15, if_pos (by omega)]; exact ⟨rfl, VRet.ext hv (by repeat (first | assumption | exact Ext.refl _ | refine Ext.alloc ?_ _ | refine Ext.drew ?_ | refine Ext.setB ?_ (by first | omega | (simp only [size_alloc, size_setB, size_drew]; omega)) _ | refine Ext.trans ?_ (by assumption)))⟩)
      | (rw [V.slot, if_neg h15, if_neg h26]; exact ⟨rfl, ⟨_, _, hV8, (VStep.pre (by repeat (first | assumption | exact Ext.refl _ | refine Ext.alloc ?_ _ | refine Ext.drew ?_ | refine Ext.setB ?_ (by first | omega | (simp only [size_alloc, size_setB, size_drew]; omega)) _ | refine Ext.trans ?_ (by assumption))) hS7).trans hS8⟩⟩)
    · have hb5p := hb5.h; simp only [al_ete, al_dfn, Bool.not_eq_true', Bool.not_eq_false', al_ne, Bool.not_not, al_nn] at hb5p
      refine WO_guardT rfl rfl hb5.h ?_
      refine WO_p (PS_move_ptr rfl) ?_
      refine WO_guardT rfl rfl hb5.h ?_
      refine WO_p (PS_nilCheck rfl) ?_
      refine WO_guardT rfl rfl hb5.h ?_
      refine WO_p (PS_fieldAddr 1 Hvad.runUnderlying79 rfl Hvad.sizeOf71 rfl rfl) ?_
      refine WO_guardT rfl rfl hb5.h ?_
      refine WO_load (.slice _ _ _) Hvad.isAgg71 rfl (Hb.h (by repeat (first | assumption | exact Hb.newY _ _ | refine Hb.alloc ?_ | refine Hb.drew ?_ | refine Hb.ext (by assumption) ?_ | exact Hb.setSameL (by first | omega | (simp only [size_alloc, size_setB, size_drew]; omega)) | exact Hb.setSame (by assumption) | refine Hb.set (by first | omega | (simp only [size_alloc, size_setB, size_drew]; omega)) ?_ ))) (Ce.h (by first | assumption | exact ⟨rfl⟩)) ?_
      refine WO_guardT rfl rfl hb5.h ?_
      refine WO_p (PS_lenS Hvad.runUnderlying71 rfl) ?_
      refine WO_guardT rfl rfl hb5.h ?_
      refine WO_p (PS_geq rfl rfl) ?_
      refine WO_p (PS_pickF rfl hb5.h rfl) ?_
      refine WO_nil ?_
      refine thn_normal ?_
      refine W_if rfl (fun hb7 => ?_) (fun hb7 => ?_)
      · have hb7p := hb7.h; simp only [al_ete, al_dfn, Bool.not_eq_true', Bool.not_eq_false', al_ne, Bool.not_not, al_nn] at hb7p
        have h26 : (v.findS a K).2 < 0 ∨ 2560 ≤ v.slots.length := by omega
        refine W_seq ?_
        refine W_region rfl ?_
        refine WO_p (PS_assign_int rfl) ?_
        refine WO_p (PS_assign_bool rfl) ?_
        refine WO_nil ?_
        refine thn_normal ?_
        refine W_ret ?_
        refine thn_ret ?_
        refine bodyQ_ret2 Hvad.results55 rfl rfl (.int _ _) (.bool _) rfl rfl ?_
        first
        | (rw [V.slot, if_pos h15]; exact ⟨rfl, VRet.ext hv (by repeat (first | assumption | exact Ext.refl _ | refine Ext.alloc ?_ _ | refine Ext.drew ?_ | refine Ext.setB ?_ (by first | omega | (simp only [size_alloc, size_setB, size_drew]; omega)) _ | refine Ext.trans ?_ (by assumption)))⟩)
        | (rw [V.slot, if_neg h15, if_pos (by omega)]; exact ⟨rfl, VRet.ext hv (by repeat (first | assumption | exact Ext.refl _ | refine Ext.alloc ?_ _ | refine Ext.drew ?_ | refine Ext.setB ?_ (by first | omega | (simp only [size_alloc, size_setB, size_drew]; omega)) _ | refine Ext.trans ?_ (by assumption)))⟩)
        | (rw [V.slot, if_neg h15, if_neg h26]; exact ⟨rfl, ⟨_, _, hV8, (VStep.pre (by repeat (first | assumption | exact Ext.refl _ | refine Ext.alloc ?_ _ | refine Ext.drew ?_ | refine Ext.setB ?_ (by first | omega | (simp only [size_alloc, size_setB, size_drew]; omega)) _ | refine Ext.trans ?_ (by assumption))) hS7).trans hS8⟩⟩)
      · have hb7p := hb7.h; simp only [al_ete, al_dfn, Bool.not_eq_true', Bool.not_eq_false', al_ne, Bool.not_not, al_nn] at hb7p
        have h26 : ¬ ((v.findS a K).2 < 0 ∨ 2560 ≤ v.slots.length) := by omega
        refine W_skip ?_
        refine thn_normal ?_
        refine W_seq ?_
        refine W_region rfl ?_
        refine WO_p (PS_move_ptr rfl) ?_
        refine WO_p (PS_nilCheck rfl) ?_
        refine WO_p (PS_fieldAddr 1 Hvad.runUnderlying79 rfl Hvad.sizeOf71 rfl rfl) ?_
        refine WO_load (.slice _ _ _) Hvad.isAgg71 rfl (Hb.h (by repeat (first | assumption | exact Hb.newY _ _ | refine Hb.alloc ?_ | refine Hb.drew ?_ | refine Hb.ext (by assumption) ?_ | exact Hb.setSameL (by first | omega | (simp only [size_alloc, size_setB, size_drew]; omega)) | exact Hb.setSame (by assumption) | refine Hb.set (by first | omega | (simp only [size_alloc, size_setB, size_drew]; omega)) ?_ ))) (Ce.h (by first | assumption | exact ⟨rfl⟩)) ?_
        refine WO_p (PS_lenS Hvad.runUnderlying71 rfl) ?_
        refine WO_p (PS_conv_i32n Hvad.runUnderlying3 Hvad.runUnderlying21 rfl (by omega) (by omega)) ?_
        refine WO_p (PS_assign_int rfl) ?_
        refine WO_nil ?_
        refine thn_normal ?_
        refine W_seq ?_
        refine W_drawE [false, false, false, false, false, false, false, false, true, false, false, false, false] hmix (by kernel_rfl) rfl ?_
        refine WH_p (PS_move_ptr rfl) rfl ?_
        refine WH_p (PS_move_ptr rfl) rfl ?_
        refine WH_p (PS_nilCheck rfl) rfl ?_
        refine WH_p (PS_fieldAddr 1 Hvad.runUnderlying79 rfl Hvad.sizeOf71 rfl rfl) rfl ?_
        refine WH_load (.slice _ _ _) Hvad.isAgg71 rfl (Hb.h (by repeat (first | assumption | exact Hb.newY _ _ | refine Hb.alloc ?_ | refine Hb.drew ?_ | refine Hb.ext (by assumption) ?_ | exact Hb.setSameL (by first | omega | (simp only [size_alloc, size_setB, size_drew]; omega)) | exact Hb.setSame (by assumption) | refine Hb.set (by first | omega | (simp only [size_alloc, size_setB, size_drew]; omega)) ?_ ))) (Ce.h (by first | assumption | exact ⟨rfl⟩)) ?_
        refine WH_p (PS_move_int rfl) rfl ?_
        refine WH_loadA _ Hvad.isAgg59 Hvad.sizeOf59 rfl (Hb.h (by repeat (first | assumption | exact Hb.newY _ _ | refine Hb.alloc ?_ | refine Hb.drew ?_ | refine Hb.ext (by assumption) ?_ | exact Hb.setSameL (by first | omega | (simp only [size_alloc, size_setB, size_drew]; omega)) | exact Hb.setSame (by assumption) | refine Hb.set (by first | omega | (simp only [size_alloc, size_setB, size_drew]; omega)) ?_ ))) (by first | omega | assumption | rfl | decide | (simp only [size_ic, Value.cells]; omega) | simp) (Xt.h (by first | assumption | exact Xt.whole rfl rfl | exact Xt.whole rfl (by simp only [size_ic, Value.cells]; omega) | exact ⟨rfl⟩)) ?_
        refine WH_p (PS_b152_01 rfl rfl hK.1) rfl ?_
        refine WH_buildSlice1 Hvad.runUnderlying71 Hvad.sizeOf152 Hvad.zeroValue152 rfl (by first | omega | assumption | rfl | decide | (simp only [size_ic, Value.cells]; omega) | simp) (by decide) (by decide) (fun _ => (by repeat (first | assumption | exact Ext.refl _ | refine Ext.alloc ?_ _ | refine Ext.drew ?_ | exact Ext.trans (by assumption) (by assumption)))) ?_
        refine WH_push_slots (hv1.ext (by repeat (first | assumption | exact Ext.refl _ | refine Ext.alloc ?_ _ | refine Ext.drew ?_ | exact Ext.trans (by assumption) (by assumption)))) rfl rfl (by simpa using hen) (Hb.newY _ _) (newS_ty ha hK) (by omega) ?_
        intro s' wA hC hV
        obtain ⟨hV7, hS7⟩ := hV
        refine WH_p (PS_nilCheck rfl) rfl ?_
        refine WH_p (PS_fieldAddr 1 Hvad.runUnderlying79 rfl Hvad.sizeOf71 rfl rfl) rfl ?_
        refine WH_store1 Hvad.sizeOf71 rfl (v := slv _ _) rfl hC.h rfl (by rw [hv.rep.size]; decide) rfl (fun h => by cases h) ?_
        refine WH_nil ?_
        refine thn_normal ?_
        refine W_seq ?_
        refine W_region rfl ?_
        refine WO_p (PS_move_ptr rfl) ?_
        refine WO_p (PS_move_int rfl) ?_
        refine WO_p (PS_move_int rfl) ?_
        refine WO_p (PS_nilCheck rfl) ?_
        refine WO_p (PS_fieldAddr 4098 Hvad.runUnderlying79 rfl Hvad.sizeOf72 rfl rfl) ?_
        refine WO_p (PS_indexA Hvad.runUnderlying72 Hvad.sizeOf21 rfl rfl (by omega) (by omega)) ?_
        have hC8 := hV7.blk
        have hC8s := hV7.rep.size
        refine WO_store1 Hvad.sizeOf21 rfl (v := .int _ _) rfl hC8.h rfl (by omega) rfl ?_
        obtain ⟨hV8, hS8⟩ := hV7.put_stab (v.findS a K).2.toNat v.slots.length (by omega) (by unfold I32; omega)
        refine WO_nil ?_
        refine thn_normal ?_
        refine W_seq ?_
        refine W_region rfl ?_
        refine WO_p (PS_move_int rfl) ?_
        refine WO_p (PS_assign_int rfl) ?_
        refine WO_p (PS_assign_bool rfl) ?_
        refine WO_nil ?_
        refine thn_normal ?_
        refine W_ret ?_
        refine bodyQ_ret2 Hvad.results55 rfl rfl (.int _ _) (.bool _) rfl rfl ?_
        first
        | (rw [V.slot, if_pos h15]; exact ⟨rfl, VRet.ext hv (by repeat (first | assumption | exact Ext.refl _ | refine Ext.alloc ?_ _ | refine Ext.drew ?_ | refine Ext.setB ?_ (by first | omega | (simp only [size_alloc, size_setB, size_drew]; omega)) _ | refine Ext.trans ?_ (by assumption)))⟩)
        | (rw [V.slot, if_neg h15, if_pos (by omega)]; exact ⟨rfl, VRet.ext hv (by repeat (first | assumption | exact Ext.refl _ | refine Ext.alloc ?_ _ | refine Ext.drew ?_ | refine Ext.setB ?_ (by first | omega | (simp only [size_alloc, size_setB, size_drew]; omega)) _ | refine Ext.trans ?_ (by assumption)))⟩)
        | (rw [V.slot, if_neg h15, if_neg h26]; exact ⟨rfl, ⟨_, _, hV8, (VStep.pre (by repeat (first | assumption | exact Ext.refl _ | refine Ext.alloc ?_ _ | refine Ext.drew ?_ | refine Ext.setB ?_ (by first | omega | (simp only [size_alloc, size_setB, size_drew]; omega)) _ | refine Ext.trans ?_ (by assumption))) hS7).trans hS8⟩⟩)

theorem acct_i32 {w : World} {C : Nat} {c : Array Value} {v : V} {B : VB} {β : Option Nat} (hv : VS w C c v B β) (A : List Int) : I32 (v.acct A).1.1 := by
  have h1 := findA_range v A
  have h2 := hv.ty.la
  unfold V.acct I32
  split
  · rename_i h0
    have := findA_lt h0
    dsimp only; omega
  · split <;> dsimp only <;> omega
set_option maxRecDepth 10000 in
theorem slotOf_spec (C : Nat) (c : Array Value) (v : V) (B : VB) (β : Option Nat) (A K : List Int) (w : World) (hv : VS w C c v B β) (hA : By A 20) (hK : Wd K) : Ret Hvad.prog 127 #[.pointer (some ⟨C, 2435, none⟩), .agg (ic .u8 A), .agg (ic .u64 K)] w fun u w' => u = .tuple #[.int .i32 (v.slotOf A K).1.1, .bool (v.slotOf A K).1.2] ∧ VRet w C c B β w' (v.slotOf A K).2 := by
  have hAl := hA.1
  have hKl := hK.1
  have hls := hv.ty.ls
  have hai := acct_i32 hv A
  refine Ret_of_W Hvad.func127 rfl rfl ?_
  refine W_seq ?_
  refine W_region rfl ?_
  refine WO_box (.agg _) rfl ?_
  refine WO_box (.agg _) rfl ?_
  refine WO_p (PS_assign_int rfl) ?_
  refine WO_p (PS_assign_bool rfl) ?_
  refine WO_nil ?_
  refine thn_normal ?_
  refine W_seq ?_
  refine W_region rfl ?_
  refine WO_p (PS_move_ptr rfl) ?_
  refine WO_loadA _ Hvad.isAgg25 Hvad.sizeOf25 rfl (Hb.h (by repeat (first | assumption | exact Hb.newY _ _ | refine Hb.alloc ?_ | refine Hb.drew ?_ | refine Hb.ext (by assumption) ?_ | exact Hb.setSameL (by first | omega | (simp only [size_alloc, size_setB, size_drew]; omega)) | exact Hb.setSame (by assumption) | refine Hb.set (by first | omega | (simp only [size_alloc, size_setB, size_drew]; omega)) ?_ ))) (by first | omega | assumption | rfl | decide | (simp only [size_ic, Value.cells]; omega) | simp) (Xt.h (by first | assumption | exact Xt.whole rfl rfl | exact Xt.whole rfl (by simp only [size_ic, Value.cells]; omega) | exact ⟨rfl⟩)) ?_
  refine WO_call Hvad.call75 (by rfl) (Ret.mono (findAcct_spec C c v B β A _ (hv.ext (by repeat (first | assumption | exact Ext.refl _ | refine Ext.alloc ?_ _ | refine Ext.drew ?_ | exact Ext.trans (by assumption) (by assumption)))) hA) ?_)
  rintro _ w1 ⟨rfl, hE1⟩
  have hA1 : Hb w1 w.heap.size (.cells (ic .u8 A) 25 (0, 0)) := Hb.ext hE1 (Hb.alloc (Hb.newY _ _))
  have hK1 : Hb w1 (w.alloc _).heap.size (.cells (ic .u64 K) 59 (0, 0)) := Hb.ext hE1 (Hb.newY _ _)
  replace hE1 : Ext w w1 := Ext.trans (Ext.alloc (Ext.alloc (Ext.refl w) _) _) hE1
  have hv1 := hv.ext hE1
  have hblk := hv1.blk
  have hd_slots : Ce c 2436 (.slice (slp B.s) v.slots.length (slc B.s)) := hv.rep.slots
  refine WO_p (PS_move_tuple rfl) ?_
  refine WO_p (PS_extract_int rfl rfl) ?_
  refine WO_p (PS_extract_int rfl rfl) ?_
  refine WO_p (PS_assign_int rfl) ?_
  refine WO_p (PS_assign_int rfl) ?_
  refine WO_nil ?_
  refine thn_normal ?_
  refine W_seq ?_
  refine W_seq ?_
  refine W_region rfl ?_
  refine WO_p (PS_move_int rfl) ?_
  refine WO_p (PS_lss rfl rfl) ?_
  refine WO_p (PS_move_bool rfl) ?_
  refine WO_if (t := 19) rfl (fun hb3 => ?_) (fun hb3 => ?_)
  · have hb3p := hb3.h; simp only [al_ete, al_dfn, Bool.not_eq_true', Bool.not_eq_false', al_ne, Bool.not_not, al_nn] at hb3p
    refine WO_guardT rfl rfl hb3.h ?_
    refine WO_p (PS_move_ptr rfl) ?_
    refine WO_guardT rfl rfl hb3.h ?_
    refine WO_p (PS_nilCheck rfl) ?_
    refine WO_guardT rfl rfl hb3.h ?_
    refine WO_p (PS_fieldAddr 1 Hvad.runUnderlying79 rfl Hvad.sizeOf71 rfl rfl) ?_
    refine WO_guardT rfl rfl hb3.h ?_
    refine WO_load (.slice _ _ _) Hvad.isAgg71 rfl (Hb.h (by repeat (first | assumption | exact Hb.newY _ _ | refine Hb.alloc ?_ | refine Hb.drew ?_ | refine Hb.ext (by assumption) ?_ | exact Hb.setSameL (by first | omega | (simp only [size_alloc, size_setB, size_drew]; omega)) | exact Hb.setSame (by assumption) | refine Hb.set (by first | omega | (simp only [size_alloc, size_setB, size_drew]; omega)) ?_ ))) (Ce.h (by first | assumption | exact ⟨rfl⟩)) ?_
    refine WO_guardT rfl rfl hb3.h ?_
    refine WO_p (PS_lenS Hvad.runUnderlying71 rfl) ?_
    refine WO_guardT rfl rfl hb3.h ?_
    refine WO_p (PS_geq rfl rfl) ?_
    refine WO_p (PS_pickT rfl hb3.h rfl) ?_
    refine WO_nil ?_
    refine thn_normal ?_
    refine W_if rfl (fun hb5 => ?_) (fun hb5 => ?_)
    · have hb5p := hb5.h; simp only [al_ete, al_dfn, Bool.not_eq_true', Bool.not_eq_false', al_ne, Bool.not_not, al_nn] at hb5p
      have h26 : (v.findA A).1 < 0 ∧ 2560 ≤ v.slots.length := by omega
      refine W_seq ?_
      refine W_region rfl ?_
      refine WO_p (PS_assign_int rfl) ?_
      refine WO_p (PS_assign_bool rfl) ?_
      refine WO_nil ?_
      refine thn_normal ?_
      refine W_ret ?_
      refine thn_ret ?_
      refine bodyQ_ret2 Hvad.results127 rfl rfl (.int _ _) (.bool _) rfl rfl ?_
      first
      | (rw [V.slotOf, if_pos h26]; exact ⟨rfl, VRet.ext hv hE1⟩)
      | (rw [V.slotOf, if_neg (by omega), if_neg (by rw [hok]; decide)]; exact ⟨rfl, ⟨_, _, hv2, VStep.pre hE1 hs2⟩⟩)
      | (rw [V.slotOf, if_neg (by omega), if_pos hok]; exact ⟨rfl, ⟨_, _, hv3, (VStep.pre hE1 hs2).trans hs3⟩⟩)
    · have hb5p := hb5.h; simp only [al_ete, al_dfn, Bool.not_eq_true', Bool.not_eq_false', al_ne, Bool.not_not, al_nn] at hb5p
      have h26 : ¬ ((v.findA A).1 < 0 ∧ 2560 ≤ v.slots.length) := by omega
      refine W_skip ?_
      refine thn_normal ?_
      refine W_seq ?_
      refine W_region rfl ?_
      refine WO_p (PS_move_ptr rfl) ?_
      refine WO_loadA _ Hvad.isAgg25 Hvad.sizeOf25 rfl (Hb.h (by repeat (first | assumption | exact Hb.newY _ _ | refine Hb.alloc ?_ | refine Hb.drew ?_ | refine Hb.ext (by assumption) ?_ | exact Hb.setSameL (by first | omega | (simp only [size_alloc, size_setB, size_drew]; omega)) | exact Hb.setSame (by assumption) | refine Hb.set (by first | omega | (simp only [size_alloc, size_setB, size_drew]; omega)) ?_ ))) (by first | omega | assumption | rfl | decide | (simp only [size_ic, Value.cells]; omega) | simp) (Xt.h (by first | assumption | exact Xt.whole rfl rfl | exact Xt.whole rfl (by simp only [size_ic, Value.cells]; omega) | exact ⟨rfl⟩)) ?_
      refine WO_call Hvad.call53 (by rfl) (Ret.mono (acct_spec C _ _ _ _ A _ hv1 hA) ?_)
      rintro _ w2 ⟨rfl, c2, B2, hv2, hs2⟩
      have hK2 := hs2.hb hv1 hK1 (by decide)
      refine WO_p (PS_move_tuple rfl) ?_
      refine WO_p (PS_extract_int rfl rfl) ?_
      refine WO_p (PS_extract_bool rfl rfl) ?_
      refine WO_p (PS_assign_int rfl) ?_
      refine WO_p (PS_assign_bool rfl) ?_
      refine WO_nil ?_
      refine thn_normal ?_
      refine W_seq ?_
      refine W_seq ?_
      refine W_region rfl ?_
      refine WO_p (PS_move_bool rfl) ?_
      refine WO_p (PS_not rfl) ?_
      refine WO_nil ?_
      refine thn_normal ?_
      refine W_if rfl (fun hb9 => ?_) (fun hb9 => ?_)
      · have hb9p := hb9.h; simp only [al_ete, al_dfn, Bool.not_eq_true', Bool.not_eq_false', al_ne, Bool.not_not, al_nn] at hb9p
        have hok := hb9p
        refine W_seq ?_
        refine W_region rfl ?_
        refine WO_p (PS_assign_int rfl) ?_
        refine WO_p (PS_assign_bool rfl) ?_
        refine WO_nil ?_
        refine thn_normal ?_
        refine W_ret ?_
        refine thn_ret ?_
        refine bodyQ_ret2 Hvad.results127 rfl rfl (.int _ _) (.bool _) rfl rfl ?_
        first
        | (rw [V.slotOf, if_pos h26]; exact ⟨rfl, VRet.ext hv hE1⟩)
        | (rw [V.slotOf, if_neg (by omega), if_neg (by rw [hok]; decide)]; exact ⟨rfl, ⟨_, _, hv2, VStep.pre hE1 hs2⟩⟩)
        | (rw [V.slotOf, if_neg (by omega), if_pos hok]; exact ⟨rfl, ⟨_, _, hv3, (VStep.pre hE1 hs2).trans hs3⟩⟩)
      · have hb9p := hb9.h; simp only [al_ete, al_dfn, Bool.not_eq_true', Bool.not_eq_false', al_ne, Bool.not_not, al_nn] at hb9p
        have hok := hb9p
        refine W_skip ?_
        refine thn_normal ?_
        refine W_seq ?_
        refine W_region rfl ?_
        refine WO_p (PS_move_ptr rfl) ?_
        refine WO_p (PS_move_int rfl) ?_
        refine WO_loadA _ Hvad.isAgg59 Hvad.sizeOf59 rfl (Hb.h (by repeat (first | assumption | exact Hb.newY _ _ | refine Hb.alloc ?_ | refine Hb.drew ?_ | refine Hb.ext (by assumption) ?_ | exact Hb.setSameL (by first | omega | (simp only [size_alloc, size_setB, size_drew]; omega)) | exact Hb.setSame (by assumption) | refine Hb.set (by first | omega | (simp only [size_alloc, size_setB, size_drew]; omega)) ?_ ))) (by first | omega | assumption | rfl | decide | (simp only [size_ic, Value.cells]; omega) | simp) (Xt.h (by first | assumption | exact Xt.whole rfl rfl | exact Xt.whole rfl (by simp only [size_ic, Value.cells]; omega) | exact ⟨rfl⟩)) ?_
        refine WO_call Hvad.call55 (by rfl) (Ret.mono (slot_spec C _ _ _ _ _ _ _ hv2 hai hK) ?_)
        rintro _ w3 ⟨rfl, c3, B3, hv3, hs3⟩
        refine WO_p (PS_extract_int rfl rfl) ?_
        refine WO_p (PS_extract_bool rfl rfl) ?_
        refine WO_p (PS_assign_int rfl) ?_
        refine WO_p (PS_assign_bool rfl) ?_
        refine WO_nil ?_
        refine thn_normal ?_
        refine W_ret ?_
        refine bodyQ_ret2 Hvad.results127 rfl rfl (.int _ _) (.bool _) rfl rfl ?_
        first
        | (rw [V.slotOf, if_pos h26]; exact ⟨rfl, VRet.ext hv hE1⟩)
        | (rw [V.slotOf, if_neg (by omega), if_neg (by rw [hok]; decide)]; exact ⟨rfl, ⟨_, _, hv2, VStep.pre hE1 hs2⟩⟩)
        | (rw [V.slotOf, if_neg (by omega), if_pos hok]; exact ⟨rfl, ⟨_, _, hv3, (VStep.pre hE1 hs2).trans hs3⟩⟩)
  · have hb3p := hb3.h; simp only [al_ete, al_dfn, Bool.not_eq_true', Bool.not_eq_false', al_ne, Bool.not_not, al_nn] at hb3p
    refine WO_guardF rfl rfl hb3.h ?_
    refine WO_guardF rfl rfl hb3.h ?_
    refine WO_guardF rfl rfl hb3.h ?_
    refine WO_guardF rfl rfl hb3.h ?_
    refine WO_guardF rfl rfl hb3.h ?_
    refine WO_guardF rfl rfl hb3.h ?_
    refine WO_p (PS_pickF rfl hb3.h rfl) ?_
    refine WO_nil ?_
    refine thn_normal ?_
    refine W_condF rfl rfl ?_
    refine W_skip ?_
    refine thn_normal ?_
    refine W_seq ?_
    refine W_region rfl ?_
    refine WO_p (PS_move_ptr rfl) ?_
    refine WO_loadA _ Hvad.isAgg25 Hvad.sizeOf25 rfl (Hb.h (by repeat (first | assumption | exact Hb.newY _ _ | refine Hb.alloc ?_ | refine Hb.drew ?_ | refine Hb.ext (by assumption) ?_ | exact Hb.setSameL (by first | omega | (simp only [size_alloc, size_setB, size_drew]; omega)) | exact Hb.setSame (by assumption) | refine Hb.set (by first | omega | (simp only [size_alloc, size_setB, size_drew]; omega)) ?_ ))) (by first | omega | assumption | rfl | decide | (simp only [size_ic, Value.cells]; omega) | simp) (Xt.h (by first | assumption | exact Xt.whole rfl rfl | exact Xt.whole rfl (by simp only [size_ic, Value.cells]; omega) | exact ⟨rfl⟩)) ?_
    refine WO_call Hvad.call53 (by rfl) (Ret.mono (acct_spec C _ _ _ _ A _ hv1 hA) ?_)
    rintro _ w2 ⟨rfl, c2, B2, hv2, hs2⟩
    have hK2 := hs2.hb hv1 hK1 (by decide)
    refine WO_p (PS_move_tuple rfl) ?_
    refine WO_p (PS_extract_int rfl rfl) ?_
    refine WO_p (PS_extract_bool rfl rfl) ?_
    refine WO_p (PS_assign_int rfl) ?_
    refine WO_p (PS_assign_bool rfl) ?_
    refine WO_nil ?_
    refine thn_normal ?_
    refine W_seq ?_
    refine W_seq ?_
    refine W_region rfl ?_
    refine WO_p (PS_move_bool rfl) ?_
    refine WO_p (PS_not rfl) ?_
    refine WO_nil ?_
    refine thn_normal ?_
    refine W_if rfl (fun hb15 => ?_) (fun hb15 => ?_)
    · have hb15p := hb15.h; simp only [al_ete, al_dfn, Bool.not_eq_true', Bool.not_eq_false', al_ne, Bool.not_not, al_nn] at hb15p
      have hok := hb15p
      refine W_seq ?_
      refine W_region rfl ?_
      refine WO_p (PS_assign_int rfl) ?_
      refine WO_p (PS_assign_bool rfl) ?_
      refine WO_nil ?_
      refine thn_normal ?_
      refine W_ret ?_
      refine thn_ret ?_
      refine bodyQ_ret2 Hvad.results127 rfl rfl (.int _ _) (.bool _) rfl rfl ?_
      first
      | (rw [V.slotOf, if_pos h26]; exact ⟨rfl, VRet.ext hv hE1⟩)
      | (rw [V.slotOf, if_neg (by omega), if_neg (by rw [hok]; decide)]; exact ⟨rfl, ⟨_, _, hv2, VStep.pre hE1 hs2⟩⟩)
      | (rw [V.slotOf, if_neg (by omega), if_pos hok]; exact ⟨rfl, ⟨_, _, hv3, (VStep.pre hE1 hs2).trans hs3⟩⟩)
    · have hb15p := hb15.h; simp only [al_ete, al_dfn, Bool.not_eq_true', Bool.not_eq_false', al_ne, Bool.not_not, al_nn] at hb15p
      have hok := hb15p
      refine W_skip ?_
      refine thn_normal ?_
      refine W_seq ?_
      refine W_region rfl ?_
      refine WO_p (PS_move_ptr rfl) ?_
      refine WO_p (PS_move_int rfl) ?_
      refine WO_loadA _ Hvad.isAgg59 Hvad.sizeOf59 rfl (Hb.h (by repeat (first | assumption | exact Hb.newY _ _ | refine Hb.alloc ?_ | refine Hb.drew ?_ | refine Hb.ext (by assumption) ?_ | exact Hb.setSameL (by first | omega | (simp only [size_alloc, size_setB, size_drew]; omega)) | exact Hb.setSame (by assumption) | refine Hb.set (by first | omega | (simp only [size_alloc, size_setB, size_drew]; omega)) ?_ ))) (by first | omega | assumption | rfl | decide | (simp only [size_ic, Value.cells]; omega) | simp) (Xt.h (by first | assumption | exact Xt.whole rfl rfl | exact Xt.whole rfl (by simp only [size_ic, Value.cells]; omega) | exact ⟨rfl⟩)) ?_
      refine WO_call Hvad.call55 (by rfl) (Ret.mono (slot_spec C _ _ _ _ _ _ _ hv2 hai hK) ?_)
      rintro _ w3 ⟨rfl, c3, B3, hv3, hs3⟩
      refine WO_p (PS_extract_int rfl rfl) ?_
      refine WO_p (PS_extract_bool rfl rfl) ?_
      refine WO_p (PS_assign_int rfl) ?_
      refine WO_p (PS_assign_bool rfl) ?_
      refine WO_nil ?_
      refine thn_normal ?_
      refine W_ret ?_
      refine bodyQ_ret2 Hvad.results127 rfl rfl (.int _ _) (.bool _) rfl rfl ?_
      first
      | (rw [V.slotOf, if_pos h26]; exact ⟨rfl, VRet.ext hv hE1⟩)
      | (rw [V.slotOf, if_neg (by omega), if_neg (by rw [hok]; decide)]; exact ⟨rfl, ⟨_, _, hv2, VStep.pre hE1 hs2⟩⟩)
      | (rw [V.slotOf, if_neg (by omega), if_pos hok]; exact ⟨rfl, ⟨_, _, hv3, (VStep.pre hE1 hs2).trans hs3⟩⟩)

set_option maxRecDepth 10000 in
theorem putNonce_spec (C : Nat) (c : Array Value) (v : V) (B : VB) (β : Option Nat) (A : List Int) (n : Int) (w : World) (hv : VS w C c v B β) (hA : By A 20) (hn : 0 ≤ n ∧ n ≤ 18446744073709551615) : Ret Hvad.prog 33 #[.pointer (some ⟨C, 2435, none⟩), .agg (ic .u8 A), .int .u64 n] w fun u w' => u = .bool (v.putNonce A n).1 ∧ VRet w C c B β w' (v.putNonce A n).2 := by
  have hAl := hA.1
  have hlj := hv.ty.lj
  have hai := acct_i32 hv A
  refine Ret_of_W Hvad.func33 rfl rfl ?_
  refine W_seq ?_
  refine W_region rfl ?_
  refine WO_box (.agg _) rfl ?_
  refine WO_p (PS_assign_bool rfl) ?_
  refine WO_nil ?_
  refine thn_normal ?_
  refine W_seq ?_
  refine W_seq ?_
  refine W_region rfl ?_
  refine WO_p (PS_move_ptr rfl) ?_
  refine WO_call Hvad.call73 (by rfl) (Ret.mono (room_spec C c v B β _ (hv.ext (by repeat (first | assumption | exact Ext.refl _ | refine Ext.alloc ?_ _ | refine Ext.drew ?_ | exact Ext.trans (by assumption) (by assumption))))) ?_)
  rintro _ w1 ⟨rfl, hE1⟩
  have hA1 : Hb w1 w.heap.size (.cells (ic .u8 A) 25 (0, 0)) := Hb.ext hE1 (Hb.newY _ _)
  replace hE1 : Ext w w1 := Ext.trans (Ext.alloc (Ext.refl w) _) hE1
  have hv1 := hv.ext hE1
  refine WO_p (PS_not rfl) ?_
  refine WO_nil ?_
  refine thn_normal ?_
  refine W_if rfl (fun hb4 => ?_) (fun hb4 => ?_)
  · have hb4p := hb4.h; simp only [al_ete, al_dfn, Bool.not_eq_true', Bool.not_eq_false', al_ne, Bool.not_not, al_nn] at hb4p
    have h11 : 65536 ≤ v.journal.length := by omega
    refine W_seq ?_
    refine W_region rfl ?_
    refine WO_p (PS_assign_bool rfl) ?_
    refine WO_nil ?_
    refine thn_normal ?_
    refine W_ret ?_
    refine thn_ret ?_
    refine bodyQ_ret1 Hvad.results33 rfl (.bool _) rfl ?_
    first
    | (rw [V.putNonce, V.setA, if_pos h11]; exact ⟨rfl, VRet.ext hv hE1⟩)
    | (rw [V.putNonce, V.setA, if_neg h11, if_neg (by rw [hok]; decide)]; exact ⟨rfl, ⟨_, _, hv2, VStep.pre hE1 hs2⟩⟩)
    | (rw [V.putNonce, V.setA, if_neg h11, if_pos hok, hx]; exact ⟨rfl, ⟨_, _, hV7, ((VStep.pre hE1 hs2).trans (VStep.pre (by repeat (first | assumption | exact Ext.refl _ | refine Ext.alloc ?_ _ | refine Ext.drew ?_ | refine Ext.setB ?_ (by first | omega | (simp only [size_alloc, size_setB, size_drew]; omega)) _ | refine Ext.trans ?_ (by assumption))) hS6)).trans hS7⟩⟩)
  · have hb4p := hb4.h; simp only [al_ete, al_dfn, Bool.not_eq_true', Bool.not_eq_false', al_ne, Bool.not_not, al_nn] at hb4p
    have h11 : ¬ 65536 ≤ v.journal.length := by omega
    refine W_skip ?_
    refine thn_normal ?_
    refine W_seq ?_
    refine W_region rfl ?_
    refine WO_p (PS_move_ptr rfl) ?_
    refine WO_loadA _ Hvad.isAgg25 Hvad.sizeOf25 rfl (Hb.h (by repeat (first | assumption | exact Hb.newY _ _ | refine Hb.alloc ?_ | refine Hb.drew ?_ | refine Hb.ext (by assumption) ?_ | exact Hb.setSameL (by first | omega | (simp only [size_alloc, size_setB, size_drew]; omega)) | exact Hb.setSame (by assumption) | refine Hb.set (by first | omega | (simp only [size_alloc, size_setB, size_drew]; omega)) ?_ ))) (by first | omega | assumption | rfl | decide | (simp only [size_ic, Value.cells]; omega) | simp) (Xt.h (by first | assumption | exact Xt.whole rfl rfl | exact Xt.whole rfl (by simp only [size_ic, Value.cells]; omega) | exact ⟨rfl⟩)) ?_
    refine WO_call Hvad.call53 (by rfl) (Ret.mono (acct_spec C c v B β A _ hv1 hA) ?_)
    rintro _ w2 ⟨rfl, c2, B2, hv2, hs2⟩
    have hb2 := hv2.blk
    have hdj : Ce c2 10629 (.slice (slp B2.j) (v.acct A).2.journal.length (slc B2.j)) := hv2.rep.journal
    refine WO_p (PS_move_tuple rfl) ?_
    refine WO_p (PS_extract_int rfl rfl) ?_
    refine WO_p (PS_extract_bool rfl rfl) ?_
    refine WO_p (PS_assign_int rfl) ?_
    refine WO_p (PS_assign_bool rfl) ?_
    refine WO_nil ?_
    refine thn_normal ?_
    refine W_seq ?_
    refine W_seq ?_
    refine W_region rfl ?_
    refine WO_p (PS_move_bool rfl) ?_
    refine WO_p (PS_not rfl) ?_
    refine WO_nil ?_
    refine thn_normal ?_
    refine W_if rfl (fun hb8 => ?_) (fun hb8 => ?_)
    · have hb8p := hb8.h; simp only [al_ete, al_dfn, Bool.not_eq_true', Bool.not_eq_false', al_ne, Bool.not_not, al_nn] at hb8p
      have hok := hb8p
      refine W_seq ?_
      refine W_region rfl ?_
      refine WO_p (PS_assign_bool rfl) ?_
      refine WO_nil ?_
      refine thn_normal ?_
      refine W_ret ?_
      refine thn_ret ?_
      refine bodyQ_ret1 Hvad.results33 rfl (.bool _) rfl ?_
      first
      | (rw [V.putNonce, V.setA, if_pos h11]; exact ⟨rfl, VRet.ext hv hE1⟩)
      | (rw [V.putNonce, V.setA, if_neg h11, if_neg (by rw [hok]; decide)]; exact ⟨rfl, ⟨_, _, hv2, VStep.pre hE1 hs2⟩⟩)
      | (rw [V.putNonce, V.setA, if_neg h11, if_pos hok, hx]; exact ⟨rfl, ⟨_, _, hV7, ((VStep.pre hE1 hs2).trans (VStep.pre (by repeat (first | assumption | exact Ext.refl _ | refine Ext.alloc ?_ _ | refine Ext.drew ?_ | refine Ext.setB ?_ (by first | omega | (simp only [size_alloc, size_setB, size_drew]; omega)) _ | refine Ext.trans ?_ (by assumption))) hS6)).trans hS7⟩⟩)
    · have hb8p := hb8.h; simp only [al_ete, al_dfn, Bool.not_eq_true', Bool.not_eq_false', al_ne, Bool.not_not, al_nn] at hb8p
      have hok := hb8p
      obtain ⟨ha0, x, hx, hxA⟩ := acct_ok hok
      obtain ⟨b, cap, r, hab, hcap, hr, hrs, hrow, hda, hbd, hil, hty, f0, f1, f2, f3, f4, f5, f6⟩ := hv2.openA hx
      have hlx : x.bal.length = 4 := hty.2.2.1
      have hjj : (v.acct A).2.journal = v.journal := by unfold V.acct; split; rfl; split <;> rfl
      have hjl : (v.acct A).2.journal.length < 65536 := by rw [hjj]; omega
      have hen : (encE ⟨1, (v.acct A).1.1, x.nonce, [0, 0, 0, 0], (none, 0, 0), false⟩).toArray.size = 9 := by simp [encE, hlx]
      refine W_skip ?_
      refine thn_normal ?_
      refine W_seq ?_
      refine W_drawE [false, false, false, false, false, false, false, false, false, false, false, false, false, false, false, true, false, false, false, false] hmix (by kernel_rfl) rfl ?_
      refine WH_p (PS_move_ptr rfl) rfl ?_
      refine WH_p (PS_move_ptr rfl) rfl ?_
      refine WH_p (PS_nilCheck rfl) rfl ?_
      refine WH_p (PS_fieldAddr 8194 Hvad.runUnderlying79 rfl Hvad.sizeOf73 rfl rfl) rfl ?_
      refine WH_load (.slice _ _ _) Hvad.isAgg73 rfl (Hb.h (by repeat (first | assumption | exact Hb.newY _ _ | refine Hb.alloc ?_ | refine Hb.drew ?_ | refine Hb.ext (by assumption) ?_ | exact Hb.setSameL (by first | omega | (simp only [size_alloc, size_setB, size_drew]; omega)) | exact Hb.setSame (by assumption) | refine Hb.set (by first | omega | (simp only [size_alloc, size_setB, size_drew]; omega)) ?_ ))) (Ce.h (by first | assumption | exact ⟨rfl⟩)) ?_
      refine WH_p (PS_move_int rfl) rfl ?_
      refine WH_p (PS_move_ptr rfl) rfl ?_
      refine WH_p (PS_nilCheck rfl) rfl ?_
      refine WH_p (PS_fieldAddr 0 Hvad.runUnderlying79 rfl Hvad.sizeOf70 rfl rfl) rfl ?_
      refine WH_load (.slice _ _ _) Hvad.isAgg70 rfl (Hb.h (by repeat (first | assumption | exact Hb.newY _ _ | refine Hb.alloc ?_ | refine Hb.drew ?_ | refine Hb.ext (by assumption) ?_ | exact Hb.setSameL (by first | omega | (simp only [size_alloc, size_setB, size_drew]; omega)) | exact Hb.setSame (by assumption) | refine Hb.set (by first | omega | (simp only [size_alloc, size_setB, size_drew]; omega)) ?_ ))) (Ce.h (by first | assumption | exact ⟨rfl⟩)) ?_
      refine WH_p (PS_move_int rfl) rfl ?_
      refine WH_p (PS_indexS Hvad.runUnderlying70 Hvad.sizeOf149 rfl rfl (by omega) (by omega)) rfl ?_
      refine WH_p (PS_fieldAddr 20 Hvad.runUnderlying149 rfl Hvad.sizeOf26 rfl rfl) rfl ?_
      refine WH_load (.int _ _) Hvad.isAgg26 rfl (Hb.h (by repeat (first | assumption | exact Hb.newY _ _ | refine Hb.alloc ?_ | refine Hb.drew ?_ | refine Hb.ext (by assumption) ?_ | exact Hb.setSameL (by first | omega | (simp only [size_alloc, size_setB, size_drew]; omega)) | exact Hb.setSame (by assumption) | refine Hb.set (by first | omega | (simp only [size_alloc, size_setB, size_drew]; omega)) ?_ ))) (Ce.h (by first | assumption | exact ⟨rfl⟩)) ?_
      refine WH_p (PS_b173_012 rfl rfl rfl) rfl ?_
      refine WH_buildSlice1 Hvad.runUnderlying73 Hvad.sizeOf173 Hvad.zeroValue173 rfl (by first | omega | assumption | rfl | decide | (simp only [size_ic, Value.cells]; omega) | simp) (by decide) (by decide) (fun _ => (by repeat (first | assumption | exact Ext.refl _ | refine Ext.alloc ?_ _ | refine Ext.drew ?_ | exact Ext.trans (by assumption) (by assumption)))) ?_
      refine WH_push_journal (hv2.ext (by repeat (first | assumption | exact Ext.refl _ | refine Ext.alloc ?_ _ | refine Ext.drew ?_ | exact Ext.trans (by assumption) (by assumption)))) rfl rfl (by simpa using hen) (Hb.newY _ _) ⟨⟨by show (0:Int) ≤ 1; decide, by show (1:Int) ≤ 255; decide⟩, hai, hty.2.1, Wd0⟩ (Or.inl ⟨rfl, rfl⟩) hjl ?_
      intro s' wA hC hV
      obtain ⟨hV6, hS6⟩ := hV
      refine WH_p (PS_nilCheck rfl) rfl ?_
      refine WH_p (PS_fieldAddr 8194 Hvad.runUnderlying79 rfl Hvad.sizeOf73 rfl rfl) rfl ?_
      refine WH_store1 Hvad.sizeOf73 rfl (v := slv _ _) rfl hC.h rfl (by rw [hv2.rep.size]; decide) rfl (fun h => by cases h) ?_
      refine WH_nil ?_
      refine thn_normal ?_
      refine W_seq ?_
      clear hr hda hrow hbd f0 f1 f2 f3 f4 f5 f6
      have hb6 := hV6.blk
      obtain ⟨b7, cap7, r7, hab7, hcap7, hr7, hrs7, hrow7, hda7, hbd7, hil7, hty7, g0, g1, g2, g3, g4, g5, g6⟩ := hV6.openA (x := x) hx
      refine W_region rfl ?_
      refine WO_p (PS_move_ptr rfl) ?_
      refine WO_p (PS_nilCheck rfl) ?_
      refine WO_p (PS_fieldAddr 0 Hvad.runUnderlying79 rfl Hvad.sizeOf70 rfl rfl) ?_
      refine WO_load (.slice _ _ _) Hvad.isAgg70 rfl (Hb.h (by repeat (first | assumption | exact Hb.newY _ _ | refine Hb.alloc ?_ | refine Hb.drew ?_ | refine Hb.ext (by assumption) ?_ | exact Hb.setSameL (by first | omega | (simp only [size_alloc, size_setB, size_drew]; omega)) | exact Hb.setSame (by assumption) | refine Hb.set (by first | omega | (simp only [size_alloc, size_setB, size_drew]; omega)) ?_ ))) (Ce.h (by first | assumption | exact ⟨rfl⟩)) ?_
      refine WO_p (PS_move_int rfl) ?_
      refine WO_p (PS_move_int rfl) ?_
      refine WO_p (PS_indexS Hvad.runUnderlying70 Hvad.sizeOf149 rfl rfl (by omega) (by omega)) ?_
      refine WO_p (PS_fieldAddr 20 Hvad.runUnderlying149 rfl Hvad.sizeOf26 rfl rfl) ?_
      refine WO_store1 Hvad.sizeOf26 rfl (v := .int _ _) rfl hr7.h rfl (by omega) rfl ?_
      obtain ⟨hV7, hS7⟩ := hV6.wA_nonce hx hab7 hcap7 hr7 hrs7 hrow7 n hn
      refine WO_nil ?_
      refine thn_normal ?_
      refine W_seq ?_
      refine W_region rfl ?_
      refine WO_p (PS_assign_bool rfl) ?_
      refine WO_nil ?_
      refine thn_normal ?_
      refine W_ret ?_
      refine bodyQ_ret1 Hvad.results33 rfl (.bool _) rfl ?_
      first
      | (rw [V.putNonce, V.setA, if_pos h11]; exact ⟨rfl, VRet.ext hv hE1⟩)
      | (rw [V.putNonce, V.setA, if_neg h11, if_neg (by rw [hok]; decide)]; exact ⟨rfl, ⟨_, _, hv2, VStep.pre hE1 hs2⟩⟩)
      | (rw [V.putNonce, V.setA, if_neg h11, if_pos hok, hx]; exact ⟨rfl, ⟨_, _, hV7, ((VStep.pre hE1 hs2).trans (VStep.pre (by repeat (first | assumption | exact Ext.refl _ | refine Ext.alloc ?_ _ | refine Ext.drew ?_ | refine Ext.setB ?_ (by first | omega | (simp only [size_alloc, size_setB, size_drew]; omega)) _ | refine Ext.trans ?_ (by assumption))) hS6)).trans hS7⟩⟩)

set_option maxRecDepth 10000 in
theorem putBal_spec (C : Nat) (c : Array Value) (v : V) (B : VB) (β : Option Nat) (A : List Int) (n : List Int) (w : World) (hv : VS w C c v B β) (hA : By A 20) (hn : Wd n) : Ret Hvad.prog 34 #[.pointer (some ⟨C, 2435, none⟩), .agg (ic .u8 A), .agg (ic .u64 n)] w fun u w' => u = .bool (v.putBal A n).1 ∧ VRet w C c B β w' (v.putBal A n).2 := by
  have hAl := hA.1
  have hlj := hv.ty.lj
  have hai := acct_i32 hv A
  refine Ret_of_W Hvad.func34 rfl rfl ?_
  refine W_seq ?_
  refine W_region rfl ?_
  refine WO_box (.agg _) rfl ?_
  refine WO_box (.agg _) rfl ?_
  refine WO_p (PS_assign_bool rfl) ?_
  refine WO_nil ?_
  refine thn_normal ?_
  refine W_seq ?_
  refine W_seq ?_
  refine W_region rfl ?_
  refine WO_p (PS_move_ptr rfl) ?_
  refine WO_call Hvad.call73 (by rfl) (Ret.mono (room_spec C c v B β _ (hv.ext (by repeat (first | assumption | exact Ext.refl _ | refine Ext.alloc ?_ _ | refine Ext.drew ?_ | exact Ext.trans (by assumption) (by assumption))))) ?_)
  rintro _ w1 ⟨rfl, hE1⟩
  have hA1 : Hb w1 w.heap.size (.cells (ic .u8 A) 25 (0, 0)) := Hb.ext hE1 (Hb.alloc (Hb.newY _ _))
  have hX1 : Hb w1 (w.alloc _).heap.size (.cells (ic .u64 n) 59 (0, 0)) := Hb.ext hE1 (Hb.newY _ _)
  replace hE1 : Ext w w1 := Ext.trans (Ext.alloc (Ext.alloc (Ext.refl w) _) _) hE1
  have hv1 := hv.ext hE1
  refine WO_p (PS_not rfl) ?_
  refine WO_nil ?_
  refine thn_normal ?_
  refine W_if rfl (fun hb4 => ?_) (fun hb4 => ?_)
  · have hb4p := hb4.h; simp only [al_ete, al_dfn, Bool.not_eq_true', Bool.not_eq_false', al_ne, Bool.not_not, al_nn] at hb4p
    have h11 : 65536 ≤ v.journal.length := by omega
    refine W_seq ?_
    refine W_region rfl ?_
    refine WO_p (PS_assign_bool rfl) ?_
    refine WO_nil ?_
    refine thn_normal ?_
    refine W_ret ?_
    refine thn_ret ?_
    refine bodyQ_ret1 Hvad.results34 rfl (.bool _) rfl ?_
    first
    | (rw [V.putBal, V.setA, if_pos h11]; exact ⟨rfl, VRet.ext hv hE1⟩)
    | (rw [V.putBal, V.setA, if_neg h11, if_neg (by rw [hok]; decide)]; exact ⟨rfl, ⟨_, _, hv2, VStep.pre hE1 hs2⟩⟩)
    | (rw [V.putBal, V.setA, if_neg h11, if_pos hok, hx]; exact ⟨rfl, ⟨_, _, hV7, ((VStep.pre hE1 hs2).trans (VStep.pre (by repeat (first | assumption | exact Ext.refl _ | refine Ext.alloc ?_ _ | refine Ext.drew ?_ | refine Ext.setB ?_ (by first | omega | (simp only [size_alloc, size_setB, size_drew]; omega)) _ | refine Ext.trans ?_ (by assumption))) hS6)).trans (VStep.pre (Ext.drew (Ext.refl _)) hS7)⟩⟩)
  · have hb4p := hb4.h; simp only [al_ete, al_dfn, Bool.not_eq_true', Bool.not_eq_false', al_ne, Bool.not_not, al_nn] at hb4p
    have h11 : ¬ 65536 ≤ v.journal.length := by omega
    refine W_skip ?_
    refine thn_normal ?_
    refine W_seq ?_
    refine W_region rfl ?_
    refine WO_p (PS_move_ptr rfl) ?_
    refine WO_loadA _ Hvad.isAgg25 Hvad.sizeOf25 rfl (Hb.h (by repeat (first | assumption | exact Hb.newY _ _ | refine Hb.alloc ?_ | refine Hb.drew ?_ | refine Hb.ext (by assumption) ?_ | exact Hb.setSameL (by first | omega | (simp only [size_alloc, size_setB, size_drew]; omega)) | exact Hb.setSame (by assumption) | refine Hb.set (by first | omega | (simp only [size_alloc, size_setB, size_drew]; omega)) ?_ ))) (by first | omega | assumption | rfl | decide | (simp only [size_ic, Value.cells]; omega) | simp) (Xt.h (by first | assumption | exact Xt.whole rfl rfl | exact Xt.whole rfl (by simp only [size_ic, Value.cells]; omega) | exact ⟨rfl⟩)) ?_
    refine WO_call Hvad.call53 (by rfl) (Ret.mono (acct_spec C c v B β A _ hv1 hA) ?_)
    rintro _ w2 ⟨rfl, c2, B2, hv2, hs2⟩
    have hb2 := hv2.blk
    have hdj : Ce c2 10629 (.slice (slp B2.j) (v.acct A).2.journal.length (slc B2.j)) := hv2.rep.journal
    have hX2 := hs2.hb hv1 hX1 (by decide)
    refine WO_p (PS_move_tuple rfl) ?_
    refine WO_p (PS_extract_int rfl rfl) ?_
    refine WO_p (PS_extract_bool rfl rfl) ?_
    refine WO_p (PS_assign_int rfl) ?_
    refine WO_p (PS_assign_bool rfl) ?_
    refine WO_nil ?_
    refine thn_normal ?_
    refine W_seq ?_
    refine W_seq ?_
    refine W_region rfl ?_
    refine WO_p (PS_move_bool rfl) ?_
    refine WO_p (PS_not rfl) ?_
    refine WO_nil ?_
    refine thn_normal ?_
    refine W_if rfl (fun hb8 => ?_) (fun hb8 => ?_)
    · have hb8p := hb8.h; simp only [al_ete, al_dfn, Bool.not_eq_true', Bool.not_eq_false', al_ne, Bool.not_not, al_nn] at hb8p
      have hok := hb8p
      refine W_seq ?_
      refine W_region rfl ?_
      refine WO_p (PS_assign_bool rfl) ?_
      refine WO_nil ?_
      refine thn_normal ?_
      refine W_ret ?_
      refine thn_ret ?_
      refine bodyQ_ret1 Hvad.results34 rfl (.bool _) rfl ?_
      first
      | (rw [V.putBal, V.setA, if_pos h11]; exact ⟨rfl, VRet.ext hv hE1⟩)
      | (rw [V.putBal, V.setA, if_neg h11, if_neg (by rw [hok]; decide)]; exact ⟨rfl, ⟨_, _, hv2, VStep.pre hE1 hs2⟩⟩)
      | (rw [V.putBal, V.setA, if_neg h11, if_pos hok, hx]; exact ⟨rfl, ⟨_, _, hV7, ((VStep.pre hE1 hs2).trans (VStep.pre (by repeat (first | assumption | exact Ext.refl _ | refine Ext.alloc ?_ _ | refine Ext.drew ?_ | refine Ext.setB ?_ (by first | omega | (simp only [size_alloc, size_setB, size_drew]; omega)) _ | refine Ext.trans ?_ (by assumption))) hS6)).trans (VStep.pre (Ext.drew (Ext.refl _)) hS7)⟩⟩)
    · have hb8p := hb8.h; simp only [al_ete, al_dfn, Bool.not_eq_true', Bool.not_eq_false', al_ne, Bool.not_not, al_nn] at hb8p
      have hok := hb8p
      obtain ⟨ha0, x, hx, hxA⟩ := acct_ok hok
      obtain ⟨b, cap, r, hab, hcap, hr, hrs, hrow, hda, hbd, hil, hty, f0, f1, f2, f3, f4, f5, f6⟩ := hv2.openA hx
      have hlx : x.bal.length = 4 := hty.2.2.1
      have hjj : (v.acct A).2.journal = v.journal := by unfold V.acct; split; rfl; split <;> rfl
      have hjl : (v.acct A).2.journal.length < 65536 := by rw [hjj]; omega
      have hen : (encE ⟨0, (v.acct A).1.1, 0, x.bal, (none, 0, 0), false⟩).toArray.size = 9 := by simp [encE, hlx]
      refine W_skip ?_
      refine thn_normal ?_
      refine W_seq ?_
      refine W_drawE [false, false, false, false, false, false, false, false, false, false, false, false, false, false, false, true, false, false, false, false] hmix (by kernel_rfl) rfl ?_
      refine WH_p (PS_move_ptr rfl) rfl ?_
      refine WH_p (PS_move_ptr rfl) rfl ?_
      refine WH_p (PS_nilCheck rfl) rfl ?_
      refine WH_p (PS_fieldAddr 8194 Hvad.runUnderlying79 rfl Hvad.sizeOf73 rfl rfl) rfl ?_
      refine WH_load (.slice _ _ _) Hvad.isAgg73 rfl (Hb.h (by repeat (first | assumption | exact Hb.newY _ _ | refine Hb.alloc ?_ | refine Hb.drew ?_ | refine Hb.ext (by assumption) ?_ | exact Hb.setSameL (by first | omega | (simp only [size_alloc, size_setB, size_drew]; omega)) | exact Hb.setSame (by assumption) | refine Hb.set (by first | omega | (simp only [size_alloc, size_setB, size_drew]; omega)) ?_ ))) (Ce.h (by first | assumption | exact ⟨rfl⟩)) ?_
      refine WH_p (PS_move_int rfl) rfl ?_
      refine WH_p (PS_move_ptr rfl) rfl ?_
      refine WH_p (PS_nilCheck rfl) rfl ?_
      refine WH_p (PS_fieldAddr 0 Hvad.runUnderlying79 rfl Hvad.sizeOf70 rfl rfl) rfl ?_
      refine WH_load (.slice _ _ _) Hvad.isAgg70 rfl (Hb.h (by repeat (first | assumption | exact Hb.newY _ _ | refine Hb.alloc ?_ | refine Hb.drew ?_ | refine Hb.ext (by assumption) ?_ | exact Hb.setSameL (by first | omega | (simp only [size_alloc, size_setB, size_drew]; omega)) | exact Hb.setSame (by assumption) | refine Hb.set (by first | omega | (simp only [size_alloc, size_setB, size_drew]; omega)) ?_ ))) (Ce.h (by first | assumption | exact ⟨rfl⟩)) ?_
      refine WH_p (PS_move_int rfl) rfl ?_
      refine WH_p (PS_indexS Hvad.runUnderlying70 Hvad.sizeOf149 rfl rfl (by omega) (by omega)) rfl ?_
      refine WH_p (PS_fieldAddr 21 Hvad.runUnderlying149 rfl Hvad.sizeOf59 rfl rfl) rfl ?_
      refine WH_loadA _ Hvad.isAgg59 Hvad.sizeOf59 rfl (Hb.h (by repeat (first | assumption | exact Hb.newY _ _ | refine Hb.alloc ?_ | refine Hb.drew ?_ | refine Hb.ext (by assumption) ?_ | exact Hb.setSameL (by first | omega | (simp only [size_alloc, size_setB, size_drew]; omega)) | exact Hb.setSame (by assumption) | refine Hb.set (by first | omega | (simp only [size_alloc, size_setB, size_drew]; omega)) ?_ ))) (by first | omega | assumption | rfl | decide | (simp only [size_ic, Value.cells]; omega) | simp) (Xt.h (by first | assumption | exact Xt.whole rfl rfl | exact Xt.whole rfl (by simp only [size_ic, Value.cells]; omega) | exact ⟨rfl⟩)) ?_
      refine WH_p (PS_b173_013 rfl rfl rfl hlx) rfl ?_
      refine WH_buildSlice1 Hvad.runUnderlying73 Hvad.sizeOf173 Hvad.zeroValue173 rfl (by first | omega | assumption | rfl | decide | (simp only [size_ic, Value.cells]; omega) | simp) (by decide) (by decide) (fun _ => (by repeat (first | assumption | exact Ext.refl _ | refine Ext.alloc ?_ _ | refine Ext.drew ?_ | exact Ext.trans (by assumption) (by assumption)))) ?_
      refine WH_push_journal (hv2.ext (by repeat (first | assumption | exact Ext.refl _ | refine Ext.alloc ?_ _ | refine Ext.drew ?_ | exact Ext.trans (by assumption) (by assumption)))) rfl rfl (by simpa using hen) (Hb.newY _ _) ⟨⟨by show (0:Int) ≤ 0; decide, by show (0:Int) ≤ 255; decide⟩, hai, ⟨by show (0:Int) ≤ 0; decide, by show (0:Int) ≤ _; decide⟩, hty.2.2⟩ (Or.inl ⟨rfl, rfl⟩) hjl ?_
      intro s' wA hC hV
      obtain ⟨hV6, hS6⟩ := hV
      refine WH_p (PS_nilCheck rfl) rfl ?_
      refine WH_p (PS_fieldAddr 8194 Hvad.runUnderlying79 rfl Hvad.sizeOf73 rfl rfl) rfl ?_
      refine WH_store1 Hvad.sizeOf73 rfl (v := slv _ _) rfl hC.h rfl (by rw [hv2.rep.size]; decide) rfl (fun h => by cases h) ?_
      refine WH_nil ?_
      refine thn_normal ?_
      refine W_seq ?_
      have hX6 := hS6.hb (hv2.ext (by repeat (first | assumption | exact Ext.refl _ | refine Ext.alloc ?_ _ | refine Ext.drew ?_ | refine Ext.setB ?_ (by first | omega | (simp only [size_alloc, size_setB, size_drew]; omega)) _ | refine Ext.trans ?_ (by assumption)))) (Hb.ext (by repeat (first | assumption | exact Ext.refl _ | refine Ext.alloc ?_ _ | refine Ext.drew ?_ | refine Ext.setB ?_ (by first | omega | (simp only [size_alloc, size_setB, size_drew]; omega)) _ | refine Ext.trans ?_ (by assumption))) hX2) (by decide)
      have hnl := hn.1
      clear hr hda hrow hbd f0 f1 f2 f3 f4 f5 f6
      have hb6 := hV6.blk
      obtain ⟨b7, cap7, r7, hab7, hcap7, hr7, hrs7, hrow7, hda7, hbd7, hil7, hty7, g0, g1, g2, g3, g4, g5, g6⟩ := hV6.openA (x := x) hx
      refine W_drawE [false, false, false, false, false, false, false, false, false] hmix (by kernel_rfl) rfl ?_
      refine WH_p (PS_move_ptr rfl) rfl ?_
      refine WH_p (PS_nilCheck rfl) rfl ?_
      refine WH_p (PS_fieldAddr 0 Hvad.runUnderlying79 rfl Hvad.sizeOf70 rfl rfl) rfl ?_
      refine WH_load (.slice _ _ _) Hvad.isAgg70 rfl (Hb.h (by repeat (first | assumption | exact Hb.newY _ _ | refine Hb.alloc ?_ | refine Hb.drew ?_ | refine Hb.ext (by assumption) ?_ | exact Hb.setSameL (by first | omega | (simp only [size_alloc, size_setB, size_drew]; omega)) | exact Hb.setSame (by assumption) | refine Hb.set (by first | omega | (simp only [size_alloc, size_setB, size_drew]; omega)) ?_ ))) (Ce.h (by first | assumption | exact ⟨rfl⟩)) ?_
      refine WH_p (PS_move_int rfl) rfl ?_
      refine WH_loadA _ Hvad.isAgg59 Hvad.sizeOf59 rfl (Hb.h (by repeat (first | assumption | exact Hb.newY _ _ | refine Hb.alloc ?_ | refine Hb.drew ?_ | refine Hb.ext (by assumption) ?_ | exact Hb.setSameL (by first | omega | (simp only [size_alloc, size_setB, size_drew]; omega)) | exact Hb.setSame (by assumption) | refine Hb.set (by first | omega | (simp only [size_alloc, size_setB, size_drew]; omega)) ?_ ))) (by first | omega | assumption | rfl | decide | (simp only [size_ic, Value.cells]; omega) | simp) (Xt.h (by first | assumption | exact Xt.whole rfl rfl | exact Xt.whole rfl (by simp only [size_ic, Value.cells]; omega) | exact ⟨rfl⟩)) ?_
      refine WH_p (PS_indexS Hvad.runUnderlying70 Hvad.sizeOf149 rfl rfl (by omega) (by omega)) rfl ?_
      refine WH_p (PS_fieldAddr 21 Hvad.runUnderlying149 rfl Hvad.sizeOf59 rfl rfl) rfl ?_
      refine WH_store Hvad.sizeOf59 rfl (v := .agg (ic .u64 n)) rfl hr7.h (by first | omega | assumption | rfl | decide | (simp only [size_ic, Value.cells]; omega) | simp) (by omega) (by first | exact oneCell_ic | assumption) (fun h => by cases h) ?_
      obtain ⟨hV7, hS7⟩ := (hV6.ext (Ext.drew (Ext.refl _))).wA_bal hx hab7 hcap7 hr7.drew hrs7 hrow7 n hn
      refine WH_nil ?_
      refine thn_normal ?_
      refine W_seq ?_
      refine W_region rfl ?_
      refine WO_p (PS_assign_bool rfl) ?_
      refine WO_nil ?_
      refine thn_normal ?_
      refine W_ret ?_
      refine bodyQ_ret1 Hvad.results34 rfl (.bool _) rfl ?_
      first
      | (rw [V.putBal, V.setA, if_pos h11]; exact ⟨rfl, VRet.ext hv hE1⟩)
      | (rw [V.putBal, V.setA, if_neg h11, if_neg (by rw [hok]; decide)]; exact ⟨rfl, ⟨_, _, hv2, VStep.pre hE1 hs2⟩⟩)
      | (rw [V.putBal, V.setA, if_neg h11, if_pos hok, hx]; exact ⟨rfl, ⟨_, _, hV7, ((VStep.pre hE1 hs2).trans (VStep.pre (by repeat (first | assumption | exact Ext.refl _ | refine Ext.alloc ?_ _ | refine Ext.drew ?_ | refine Ext.setB ?_ (by first | omega | (simp only [size_alloc, size_setB, size_drew]; omega)) _ | refine Ext.trans ?_ (by assumption))) hS6)).trans (VStep.pre (Ext.drew (Ext.refl _)) hS7)⟩⟩)

set_option maxRecDepth 10000 in
theorem warmA_spec (C : Nat) (c : Array Value) (v : V) (B : VB) (β : Option Nat) (A : List Int) (w : World) (hv : VS w C c v B β) (hA : By A 20) : Ret Hvad.prog 77 #[.pointer (some ⟨C, 2435, none⟩), .agg (ic .u8 A)] w fun u w' => u = .bool (v.warmA A).1 ∧ VRet w C c B β w' (v.warmA A).2 := by
  have hAl := hA.1
  have hlj := hv.ty.lj
  have hai := acct_i32 hv A
  refine Ret_of_W Hvad.func77 rfl rfl ?_
  refine W_seq ?_
  refine W_region rfl ?_
  refine WO_box (.agg _) rfl ?_
  refine WO_p (PS_assign_bool rfl) ?_
  refine WO_nil ?_
  refine thn_normal ?_
  refine W_seq ?_
  refine W_seq ?_
  refine W_region rfl ?_
  refine WO_p (PS_move_ptr rfl) ?_
  refine WO_call Hvad.call73 (by rfl) (Ret.mono (room_spec C c v B β _ (hv.ext (by repeat (first | assumption | exact Ext.refl _ | refine Ext.alloc ?_ _ | refine Ext.drew ?_ | exact Ext.trans (by assumption) (by assumption))))) ?_)
  rintro _ w1 ⟨rfl, hE1⟩
  have hA1 : Hb w1 w.heap.size (.cells (ic .u8 A) 25 (0, 0)) := Hb.ext hE1 (Hb.newY _ _)
  replace hE1 : Ext w w1 := Ext.trans (Ext.alloc (Ext.refl w) _) hE1
  have hv1 := hv.ext hE1
  refine WO_p (PS_not rfl) ?_
  refine WO_nil ?_
  refine thn_normal ?_
  refine W_if rfl (fun hb4 => ?_) (fun hb4 => ?_)
  · have hb4p := hb4.h; simp only [al_ete, al_dfn, Bool.not_eq_true', Bool.not_eq_false', al_ne, Bool.not_not, al_nn] at hb4p
    have h11 : 65536 ≤ v.journal.length := by omega
    refine W_seq ?_
    refine W_region rfl ?_
    refine WO_p (PS_assign_bool rfl) ?_
    refine WO_nil ?_
    refine thn_normal ?_
    refine W_ret ?_
    refine thn_ret ?_
    refine bodyQ_ret1 Hvad.results77 rfl (.bool _) rfl ?_
    first
    | (rw [V.warmA, V.setA, if_pos h11]; exact ⟨rfl, VRet.ext hv hE1⟩)
    | (rw [V.warmA, V.setA, if_neg h11, if_neg (by rw [hok]; decide)]; exact ⟨rfl, ⟨_, _, hv2, VStep.pre hE1 hs2⟩⟩)
    | (rw [V.warmA, V.setA, if_neg h11, if_pos hok, hx]; exact ⟨rfl, ⟨_, _, hV7, ((VStep.pre hE1 hs2).trans (VStep.pre (by repeat (first | assumption | exact Ext.refl _ | refine Ext.alloc ?_ _ | refine Ext.drew ?_ | refine Ext.setB ?_ (by first | omega | (simp only [size_alloc, size_setB, size_drew]; omega)) _ | refine Ext.trans ?_ (by assumption))) hS6)).trans hS7⟩⟩)
  · have hb4p := hb4.h; simp only [al_ete, al_dfn, Bool.not_eq_true', Bool.not_eq_false', al_ne, Bool.not_not, al_nn] at hb4p
    have h11 : ¬ 65536 ≤ v.journal.length := by omega
    refine W_skip ?_
    refine thn_normal ?_
    refine W_seq ?_
    refine W_region rfl ?_
    refine WO_p (PS_move_ptr rfl) ?_
    refine WO_loadA _ Hvad.isAgg25 Hvad.sizeOf25 rfl (Hb.h (by repeat (first | assumption | exact Hb.newY _ _ | refine Hb.alloc ?_ | refine Hb.drew ?_ | refine Hb.ext (by assumption) ?_ | exact Hb.setSameL (by first | omega | (simp only [size_alloc, size_setB, size_drew]; omega)) | exact Hb.setSame (by assumption) | refine Hb.set (by first | omega | (simp only [size_alloc, size_setB, size_drew]; omega)) ?_ ))) (by first | omega | assumption | rfl | decide | (simp only [size_ic, Value.cells]; omega) | simp) (Xt.h (by first | assumption | exact Xt.whole rfl rfl | exact Xt.whole rfl (by simp only [size_ic, Value.cells]; omega) | exact ⟨rfl⟩)) ?_
    refine WO_call Hvad.call53 (by rfl) (Ret.mono (acct_spec C c v B β A _ hv1 hA) ?_)
    rintro _ w2 ⟨rfl, c2, B2, hv2, hs2⟩
    have hb2 := hv2.blk
    have hdj : Ce c2 10629 (.slice (slp B2.j) (v.acct A).2.journal.length (slc B2.j)) := hv2.rep.journal
    refine WO_p (PS_move_tuple rfl) ?_
    refine WO_p (PS_extract_int rfl rfl) ?_
    refine WO_p (PS_extract_bool rfl rfl) ?_
    refine WO_p (PS_assign_int rfl) ?_
    refine WO_p (PS_assign_bool rfl) ?_
    refine WO_nil ?_
    refine thn_normal ?_
    refine W_seq ?_
    refine W_seq ?_
    refine W_region rfl ?_
    refine WO_p (PS_move_bool rfl) ?_
    refine WO_p (PS_not rfl) ?_
    refine WO_nil ?_
    refine thn_normal ?_
    refine W_if rfl (fun hb8 => ?_) (fun hb8 => ?_)
    · have hb8p := hb8.h; simp only [al_ete, al_dfn, Bool.not_eq_true', Bool.not_eq_false', al_ne, Bool.not_not, al_nn] at hb8p
      have hok := hb8p
      refine W_seq ?_
      refine W_region rfl ?_
      refine WO_p (PS_assign_bool rfl) ?_
      refine WO_nil ?_
      refine thn_normal ?_
      refine W_ret ?_
      refine thn_ret ?_
      refine bodyQ_ret1 Hvad.results77 rfl (.bool _) rfl ?_
      first
      | (rw [V.warmA, V.setA, if_pos h11]; exact ⟨rfl, VRet.ext hv hE1⟩)
      | (rw [V.warmA, V.setA, if_neg h11, if_neg (by rw [hok]; decide)]; exact ⟨rfl, ⟨_, _, hv2, VStep.pre hE1 hs2⟩⟩)
      | (rw [V.warmA, V.setA, if_neg h11, if_pos hok, hx]; exact ⟨rfl, ⟨_, _, hV7, ((VStep.pre hE1 hs2).trans (VStep.pre (by repeat (first | assumption | exact Ext.refl _ | refine Ext.alloc ?_ _ | refine Ext.drew ?_ | refine Ext.setB ?_ (by first | omega | (simp only [size_alloc, size_setB, size_drew]; omega)) _ | refine Ext.trans ?_ (by assumption))) hS6)).trans hS7⟩⟩)
    · have hb8p := hb8.h; simp only [al_ete, al_dfn, Bool.not_eq_true', Bool.not_eq_false', al_ne, Bool.not_not, al_nn] at hb8p
      have hok := hb8p
      obtain ⟨ha0, x, hx, hxA⟩ := acct_ok hok
      obtain ⟨b, cap, r, hab, hcap, hr, hrs, hrow, hda, hbd, hil, hty, f0, f1, f2, f3, f4, f5, f6⟩ := hv2.openA hx
      have hlx : x.bal.length = 4 := hty.2.2.1
      have hjj : (v.acct A).2.journal = v.journal := by unfold V.acct; split; rfl; split <;> rfl
      have hjl : (v.acct A).2.journal.length < 65536 := by rw [hjj]; omega
      have hen : (encE ⟨4, (v.acct A).1.1, 0, [0, 0, 0, 0], (none, 0, 0), x.warm⟩).toArray.size = 9 := by simp [encE, hlx]
      refine W_skip ?_
      refine thn_normal ?_
      refine W_seq ?_
      refine W_drawE [false, false, false, false, false, false, false, false, false, false, false, false, false, false, false, true, false, false, false, false] hmix (by kernel_rfl) rfl ?_
      refine WH_p (PS_move_ptr rfl) rfl ?_
      refine WH_p (PS_move_ptr rfl) rfl ?_
      refine WH_p (PS_nilCheck rfl) rfl ?_
      refine WH_p (PS_fieldAddr 8194 Hvad.runUnderlying79 rfl Hvad.sizeOf73 rfl rfl) rfl ?_
      refine WH_load (.slice _ _ _) Hvad.isAgg73 rfl (Hb.h (by repeat (first | assumption | exact Hb.newY _ _ | refine Hb.alloc ?_ | refine Hb.drew ?_ | refine Hb.ext (by assumption) ?_ | exact Hb.setSameL (by first | omega | (simp only [size_alloc, size_setB, size_drew]; omega)) | exact Hb.setSame (by assumption) | refine Hb.set (by first | omega | (simp only [size_alloc, size_setB, size_drew]; omega)) ?_ ))) (Ce.h (by first | assumption | exact ⟨rfl⟩)) ?_
      refine WH_p (PS_move_int rfl) rfl ?_
      refine WH_p (PS_move_ptr rfl) rfl ?_
      refine WH_p (PS_nilCheck rfl) rfl ?_
      refine WH_p (PS_fieldAddr 0 Hvad.runUnderlying79 rfl Hvad.sizeOf70 rfl rfl) rfl ?_
      refine WH_load (.slice _ _ _) Hvad.isAgg70 rfl (Hb.h (by repeat (first | assumption | exact Hb.newY _ _ | refine Hb.alloc ?_ | refine Hb.drew ?_ | refine Hb.ext (by assumption) ?_ | exact Hb.setSameL (by first | omega | (simp only [size_alloc, size_setB, size_drew]; omega)) | exact Hb.setSame (by assumption) | refine Hb.set (by first | omega | (simp only [size_alloc, size_setB, size_drew]; omega)) ?_ ))) (Ce.h (by first | assumption | exact ⟨rfl⟩)) ?_
      refine WH_p (PS_move_int rfl) rfl ?_
      refine WH_p (PS_indexS Hvad.runUnderlying70 Hvad.sizeOf149 rfl rfl (by omega) (by omega)) rfl ?_
      refine WH_p (PS_fieldAddr 26 Hvad.runUnderlying149 rfl Hvad.sizeOf4 rfl rfl) rfl ?_
      refine WH_load (.bool _) Hvad.isAgg4 rfl (Hb.h (by repeat (first | assumption | exact Hb.newY _ _ | refine Hb.alloc ?_ | refine Hb.drew ?_ | refine Hb.ext (by assumption) ?_ | exact Hb.setSameL (by first | omega | (simp only [size_alloc, size_setB, size_drew]; omega)) | exact Hb.setSame (by assumption) | refine Hb.set (by first | omega | (simp only [size_alloc, size_setB, size_drew]; omega)) ?_ ))) (Ce.h (by first | assumption | exact ⟨rfl⟩)) ?_
      refine WH_p (PS_b173_015 rfl rfl rfl) rfl ?_
      refine WH_buildSlice1 Hvad.runUnderlying73 Hvad.sizeOf173 Hvad.zeroValue173 rfl (by first | omega | assumption | rfl | decide | (simp only [size_ic, Value.cells]; omega) | simp) (by decide) (by decide) (fun _ => (by repeat (first | assumption | exact Ext.refl _ | refine Ext.alloc ?_ _ | refine Ext.drew ?_ | exact Ext.trans (by assumption) (by assumption)))) ?_
      refine WH_push_journal (hv2.ext (by repeat (first | assumption | exact Ext.refl _ | refine Ext.alloc ?_ _ | refine Ext.drew ?_ | exact Ext.trans (by assumption) (by assumption)))) rfl rfl (by simpa using hen) (Hb.newY _ _) ⟨⟨by show (0:Int) ≤ 4; decide, by show (4:Int) ≤ 255; decide⟩, hai, ⟨by show (0:Int) ≤ 0; decide, by show (0:Int) ≤ _; decide⟩, Wd0⟩ (Or.inl ⟨rfl, rfl⟩) hjl ?_
      intro s' wA hC hV
      obtain ⟨hV6, hS6⟩ := hV
      refine WH_p (PS_nilCheck rfl) rfl ?_
      refine WH_p (PS_fieldAddr 8194 Hvad.runUnderlying79 rfl Hvad.sizeOf73 rfl rfl) rfl ?_
      refine WH_store1 Hvad.sizeOf73 rfl (v := slv _ _) rfl hC.h rfl (by rw [hv2.rep.size]; decide) rfl (fun h => by cases h) ?_
      refine WH_nil ?_
      refine thn_normal ?_
      refine W_seq ?_
      clear hr hda hrow hbd f0 f1 f2 f3 f4 f5 f6
      have hb6 := hV6.blk
      obtain ⟨b7, cap7, r7, hab7, hcap7, hr7, hrs7, hrow7, hda7, hbd7, hil7, hty7, g0, g1, g2, g3, g4, g5, g6⟩ := hV6.openA (x := x) hx
      refine W_region rfl ?_
      refine WO_p (PS_move_ptr rfl) ?_
      refine WO_p (PS_nilCheck rfl) ?_
      refine WO_p (PS_fieldAddr 0 Hvad.runUnderlying79 rfl Hvad.sizeOf70 rfl rfl) ?_
      refine WO_load (.slice _ _ _) Hvad.isAgg70 rfl (Hb.h (by repeat (first | assumption | exact Hb.newY _ _ | refine Hb.alloc ?_ | refine Hb.drew ?_ | refine Hb.ext (by assumption) ?_ | exact Hb.setSameL (by first | omega | (simp only [size_alloc, size_setB, size_drew]; omega)) | exact Hb.setSame (by assumption) | refine Hb.set (by first | omega | (simp only [size_alloc, size_setB, size_drew]; omega)) ?_ ))) (Ce.h (by first | assumption | exact ⟨rfl⟩)) ?_
      refine WO_p (PS_move_int rfl) ?_
      refine WO_p (PS_indexS Hvad.runUnderlying70 Hvad.sizeOf149 rfl rfl (by omega) (by omega)) ?_
      refine WO_p (PS_fieldAddr 26 Hvad.runUnderlying149 rfl Hvad.sizeOf4 rfl rfl) ?_
      refine WO_store1 Hvad.sizeOf4 rfl (v := .bool _) rfl hr7.h rfl (by omega) rfl ?_
      obtain ⟨hV7, hS7⟩ := hV6.wA_warm hx hab7 hcap7 hr7 hrs7 hrow7 true trivial
      refine WO_nil ?_
      refine thn_normal ?_
      refine W_seq ?_
      refine W_region rfl ?_
      refine WO_p (PS_assign_bool rfl) ?_
      refine WO_nil ?_
      refine thn_normal ?_
      refine W_ret ?_
      refine bodyQ_ret1 Hvad.results77 rfl (.bool _) rfl ?_
      first
      | (rw [V.warmA, V.setA, if_pos h11]; exact ⟨rfl, VRet.ext hv hE1⟩)
      | (rw [V.warmA, V.setA, if_neg h11, if_neg (by rw [hok]; decide)]; exact ⟨rfl, ⟨_, _, hv2, VStep.pre hE1 hs2⟩⟩)
      | (rw [V.warmA, V.setA, if_neg h11, if_pos hok, hx]; exact ⟨rfl, ⟨_, _, hV7, ((VStep.pre hE1 hs2).trans (VStep.pre (by repeat (first | assumption | exact Ext.refl _ | refine Ext.alloc ?_ _ | refine Ext.drew ?_ | refine Ext.setB ?_ (by first | omega | (simp only [size_alloc, size_setB, size_drew]; omega)) _ | refine Ext.trans ?_ (by assumption))) hS6)).trans hS7⟩⟩)

set_option maxRecDepth 10000 in
theorem markMade_spec (C : Nat) (c : Array Value) (v : V) (B : VB) (β : Option Nat) (A : List Int) (w : World) (hv : VS w C c v B β) (hA : By A 20) : Ret Hvad.prog 86 #[.pointer (some ⟨C, 2435, none⟩), .agg (ic .u8 A)] w fun u w' => u = .bool (v.markMade A).1 ∧ VRet w C c B β w' (v.markMade A).2 := by
  have hAl := hA.1
  have hlj := hv.ty.lj
  have hai := acct_i32 hv A
  refine Ret_of_W Hvad.func86 rfl rfl ?_
  refine W_seq ?_
  refine W_region rfl ?_
  refine WO_box (.agg _) rfl ?_
  refine WO_p (PS_assign_bool rfl) ?_
  refine WO_nil ?_
  refine thn_normal ?_
  refine W_seq ?_
  refine W_seq ?_
  refine W_region rfl ?_
  refine WO_p (PS_move_ptr rfl) ?_
  refine WO_call Hvad.call73 (by rfl) (Ret.mono (room_spec C c v B β _ (hv.ext (by repeat (first | assumption | exact Ext.refl _ | refine Ext.alloc ?_ _ | refine Ext.drew ?_ | exact Ext.trans (by assumption) (by assumption))))) ?_)
  rintro _ w1 ⟨rfl, hE1⟩
  have hA1 : Hb w1 w.heap.size (.cells (ic .u8 A) 25 (0, 0)) := Hb.ext hE1 (Hb.newY _ _)
  replace hE1 : Ext w w1 := Ext.trans (Ext.alloc (Ext.refl w) _) hE1
  have hv1 := hv.ext hE1
  refine WO_p (PS_not rfl) ?_
  refine WO_nil ?_
  refine thn_normal ?_
  refine W_if rfl (fun hb4 => ?_) (fun hb4 => ?_)
  · have hb4p := hb4.h; simp only [al_ete, al_dfn, Bool.not_eq_true', Bool.not_eq_false', al_ne, Bool.not_not, al_nn] at hb4p
    have h11 : 65536 ≤ v.journal.length := by omega
    refine W_seq ?_
    refine W_region rfl ?_
    refine WO_p (PS_assign_bool rfl) ?_
    refine WO_nil ?_
    refine thn_normal ?_
    refine W_ret ?_
    refine thn_ret ?_
    refine bodyQ_ret1 Hvad.results86 rfl (.bool _) rfl ?_
    first
    | (rw [V.markMade, V.setA, if_pos h11]; exact ⟨rfl, VRet.ext hv hE1⟩)
    | (rw [V.markMade, V.setA, if_neg h11, if_neg (by rw [hok]; decide)]; exact ⟨rfl, ⟨_, _, hv2, VStep.pre hE1 hs2⟩⟩)
    | (rw [V.markMade, V.setA, if_neg h11, if_pos hok, hx]; exact ⟨rfl, ⟨_, _, hV7, ((VStep.pre hE1 hs2).trans (VStep.pre (by repeat (first | assumption | exact Ext.refl _ | refine Ext.alloc ?_ _ | refine Ext.drew ?_ | refine Ext.setB ?_ (by first | omega | (simp only [size_alloc, size_setB, size_drew]; omega)) _ | refine Ext.trans ?_ (by assumption))) hS6)).trans hS7⟩⟩)
  · have hb4p := hb4.h; simp only [al_ete, al_dfn, Bool.not_eq_true', Bool.not_eq_false', al_ne, Bool.not_not, al_nn] at hb4p
    have h11 : ¬ 65536 ≤ v.journal.length := by omega
    refine W_skip ?_
    refine thn_normal ?_
    refine W_seq ?_
    refine W_region rfl ?_
    refine WO_p (PS_move_ptr rfl) ?_
    refine WO_loadA _ Hvad.isAgg25 Hvad.sizeOf25 rfl (Hb.h (by repeat (first | assumption | exact Hb.newY _ _ | refine Hb.alloc ?_ | refine Hb.drew ?_ | refine Hb.ext (by assumption) ?_ | exact Hb.setSameL (by first | omega | (simp only [size_alloc, size_setB, size_drew]; omega)) | exact Hb.setSame (by assumption) | refine Hb.set (by first | omega | (simp only [size_alloc, size_setB, size_drew]; omega)) ?_ ))) (by first | omega | assumption | rfl | decide | (simp only [size_ic, Value.cells]; omega) | simp) (Xt.h (by first | assumption | exact Xt.whole rfl rfl | exact Xt.whole rfl (by simp only [size_ic, Value.cells]; omega) | exact ⟨rfl⟩)) ?_
    refine WO_call Hvad.call53 (by rfl) (Ret.mono (acct_spec C c v B β A _ hv1 hA) ?_)
    rintro _ w2 ⟨rfl, c2, B2, hv2, hs2⟩
    have hb2 := hv2.blk
    have hdj : Ce c2 10629 (.slice (slp B2.j) (v.acct A).2.journal.length (slc B2.j)) := hv2.rep.journal
    refine WO_p (PS_move_tuple rfl) ?_
    refine WO_p (PS_extract_int rfl rfl) ?_
    refine WO_p (PS_extract_bool rfl rfl) ?_
    refine WO_p (PS_assign_int rfl) ?_
    refine WO_p (PS_assign_bool rfl) ?_
    refine WO_nil ?_
    refine thn_normal ?_
    refine W_seq ?_
    refine W_seq ?_
    refine W_region rfl ?_
    refine WO_p (PS_move_bool rfl) ?_
    refine WO_p (PS_not rfl) ?_
    refine WO_nil ?_
    refine thn_normal ?_
    refine W_if rfl (fun hb8 => ?_) (fun hb8 => ?_)
    · have hb8p := hb8.h; simp only [al_ete, al_dfn, Bool.not_eq_true', Bool.not_eq_false', al_ne, Bool.not_not, al_nn] at hb8p
      have hok := hb8p
      refine W_seq ?_
      refine W_region rfl ?_
      refine WO_p (PS_assign_bool rfl) ?_
      refine WO_nil ?_
      refine thn_normal ?_
      refine W_ret ?_
      refine thn_ret ?_
      refine bodyQ_ret1 Hvad.results86 rfl (.bool _) rfl ?_
      first
      | (rw [V.markMade, V.setA, if_pos h11]; exact ⟨rfl, VRet.ext hv hE1⟩)
      | (rw [V.markMade, V.setA, if_neg h11, if_neg (by rw [hok]; decide)]; exact ⟨rfl, ⟨_, _, hv2, VStep.pre hE1 hs2⟩⟩)
      | (rw [V.markMade, V.setA, if_neg h11, if_pos hok, hx]; exact ⟨rfl, ⟨_, _, hV7, ((VStep.pre hE1 hs2).trans (VStep.pre (by repeat (first | assumption | exact Ext.refl _ | refine Ext.alloc ?_ _ | refine Ext.drew ?_ | refine Ext.setB ?_ (by first | omega | (simp only [size_alloc, size_setB, size_drew]; omega)) _ | refine Ext.trans ?_ (by assumption))) hS6)).trans hS7⟩⟩)
    · have hb8p := hb8.h; simp only [al_ete, al_dfn, Bool.not_eq_true', Bool.not_eq_false', al_ne, Bool.not_not, al_nn] at hb8p
      have hok := hb8p
      obtain ⟨ha0, x, hx, hxA⟩ := acct_ok hok
      obtain ⟨b, cap, r, hab, hcap, hr, hrs, hrow, hda, hbd, hil, hty, f0, f1, f2, f3, f4, f5, f6⟩ := hv2.openA hx
      have hlx : x.bal.length = 4 := hty.2.2.1
      have hjj : (v.acct A).2.journal = v.journal := by unfold V.acct; split; rfl; split <;> rfl
      have hjl : (v.acct A).2.journal.length < 65536 := by rw [hjj]; omega
      have hen : (encE ⟨9, (v.acct A).1.1, 0, [0, 0, 0, 0], (none, 0, 0), x.made⟩).toArray.size = 9 := by simp [encE, hlx]
      refine W_skip ?_
      refine thn_normal ?_
      refine W_seq ?_
      refine W_drawE [false, false, false, false, false, false, false, false, false, false, false, false, false, false, false, true, false, false, false, false] hmix (by kernel_rfl) rfl ?_
      refine WH_p (PS_move_ptr rfl) rfl ?_
      refine WH_p (PS_move_ptr rfl) rfl ?_
      refine WH_p (PS_nilCheck rfl) rfl ?_
      refine WH_p (PS_fieldAddr 8194 Hvad.runUnderlying79 rfl Hvad.sizeOf73 rfl rfl) rfl ?_
      refine WH_load (.slice _ _ _) Hvad.isAgg73 rfl (Hb.h (by repeat (first | assumption | exact Hb.newY _ _ | refine Hb.alloc ?_ | refine Hb.drew ?_ | refine Hb.ext (by assumption) ?_ | exact Hb.setSameL (by first | omega | (simp only [size_alloc, size_setB, size_drew]; omega)) | exact Hb.setSame (by assumption) | refine Hb.set (by first | omega | (simp only [size_alloc, size_setB, size_drew]; omega)) ?_ ))) (Ce.h (by first | assumption | exact ⟨rfl⟩)) ?_
      refine WH_p (PS_move_int rfl) rfl ?_
      refine WH_p (PS_move_ptr rfl) rfl ?_
      refine WH_p (PS_nilCheck rfl) rfl ?_
      refine WH_p (PS_fieldAddr 0 Hvad.runUnderlying79 rfl Hvad.sizeOf70 rfl rfl) rfl ?_
      refine WH_load (.slice _ _ _) Hvad.isAgg70 rfl (Hb.h (by repeat (first | assumption | exact Hb.newY _ _ | refine Hb.alloc ?_ | refine Hb.drew ?_ | refine Hb.ext (by assumption) ?_ | exact Hb.setSameL (by first | omega | (simp only [size_alloc, size_setB, size_drew]; omega)) | exact Hb.setSame (by assumption) | refine Hb.set (by first | omega | (simp only [size_alloc, size_setB, size_drew]; omega)) ?_ ))) (Ce.h (by first | assumption | exact ⟨rfl⟩)) ?_
      refine WH_p (PS_move_int rfl) rfl ?_
      refine WH_p (PS_indexS Hvad.runUnderlying70 Hvad.sizeOf149 rfl rfl (by omega) (by omega)) rfl ?_
      refine WH_p (PS_fieldAddr 27 Hvad.runUnderlying149 rfl Hvad.sizeOf4 rfl rfl) rfl ?_
      refine WH_load (.bool _) Hvad.isAgg4 rfl (Hb.h (by repeat (first | assumption | exact Hb.newY _ _ | refine Hb.alloc ?_ | refine Hb.drew ?_ | refine Hb.ext (by assumption) ?_ | exact Hb.setSameL (by first | omega | (simp only [size_alloc, size_setB, size_drew]; omega)) | exact Hb.setSame (by assumption) | refine Hb.set (by first | omega | (simp only [size_alloc, size_setB, size_drew]; omega)) ?_ ))) (Ce.h (by first | assumption | exact ⟨rfl⟩)) ?_
      refine WH_p (PS_b173_015 rfl rfl rfl) rfl ?_
      refine WH_buildSlice1 Hvad.runUnderlying73 Hvad.sizeOf173 Hvad.zeroValue173 rfl (by first | omega | assumption | rfl | decide | (simp only [size_ic, Value.cells]; omega) | simp) (by decide) (by decide) (fun _ => (by repeat (first | assumption | exact Ext.refl _ | refine Ext.alloc ?_ _ | refine Ext.drew ?_ | exact Ext.trans (by assumption) (by assumption)))) ?_
      refine WH_push_journal (hv2.ext (by repeat (first | assumption | exact Ext.refl _ | refine Ext.alloc ?_ _ | refine Ext.drew ?_ | exact Ext.trans (by assumption) (by assumption)))) rfl rfl (by simpa using hen) (Hb.newY _ _) ⟨⟨by show (0:Int) ≤ 9; decide, by show (9:Int) ≤ 255; decide⟩, hai, ⟨by show (0:Int) ≤ 0; decide, by show (0:Int) ≤ _; decide⟩, Wd0⟩ (Or.inl ⟨rfl, rfl⟩) hjl ?_
      intro s' wA hC hV
      obtain ⟨hV6, hS6⟩ := hV
      refine WH_p (PS_nilCheck rfl) rfl ?_
      refine WH_p (PS_fieldAddr 8194 Hvad.runUnderlying79 rfl Hvad.sizeOf73 rfl rfl) rfl ?_
      refine WH_store1 Hvad.sizeOf73 rfl (v := slv _ _) rfl hC.h rfl (by rw [hv2.rep.size]; decide) rfl (fun h => by cases h) ?_
      refine WH_nil ?_
      refine thn_normal ?_
      refine W_seq ?_
      clear hr hda hrow hbd f0 f1 f2 f3 f4 f5 f6
      have hb6 := hV6.blk
      obtain ⟨b7, cap7, r7, hab7, hcap7, hr7, hrs7, hrow7, hda7, hbd7, hil7, hty7, g0, g1, g2, g3, g4, g5, g6⟩ := hV6.openA (x := x) hx
      refine W_region rfl ?_
      refine WO_p (PS_move_ptr rfl) ?_
      refine WO_p (PS_nilCheck rfl) ?_
      refine WO_p (PS_fieldAddr 0 Hvad.runUnderlying79 rfl Hvad.sizeOf70 rfl rfl) ?_
      refine WO_load (.slice _ _ _) Hvad.isAgg70 rfl (Hb.h (by repeat (first | assumption | exact Hb.newY _ _ | refine Hb.alloc ?_ | refine Hb.drew ?_ | refine Hb.ext (by assumption) ?_ | exact Hb.setSameL (by first | omega | (simp only [size_alloc, size_setB, size_drew]; omega)) | exact Hb.setSame (by assumption) | refine Hb.set (by first | omega | (simp only [size_alloc, size_setB, size_drew]; omega)) ?_ ))) (Ce.h (by first | assumption | exact ⟨rfl⟩)) ?_
      refine WO_p (PS_move_int rfl) ?_
      refine WO_p (PS_indexS Hvad.runUnderlying70 Hvad.sizeOf149 rfl rfl (by omega) (by omega)) ?_
      refine WO_p (PS_fieldAddr 27 Hvad.runUnderlying149 rfl Hvad.sizeOf4 rfl rfl) ?_
      refine WO_store1 Hvad.sizeOf4 rfl (v := .bool _) rfl hr7.h rfl (by omega) rfl ?_
      obtain ⟨hV7, hS7⟩ := hV6.wA_made hx hab7 hcap7 hr7 hrs7 hrow7 true trivial
      refine WO_nil ?_
      refine thn_normal ?_
      refine W_seq ?_
      refine W_region rfl ?_
      refine WO_p (PS_assign_bool rfl) ?_
      refine WO_nil ?_
      refine thn_normal ?_
      refine W_ret ?_
      refine bodyQ_ret1 Hvad.results86 rfl (.bool _) rfl ?_
      first
      | (rw [V.markMade, V.setA, if_pos h11]; exact ⟨rfl, VRet.ext hv hE1⟩)
      | (rw [V.markMade, V.setA, if_neg h11, if_neg (by rw [hok]; decide)]; exact ⟨rfl, ⟨_, _, hv2, VStep.pre hE1 hs2⟩⟩)
      | (rw [V.markMade, V.setA, if_neg h11, if_pos hok, hx]; exact ⟨rfl, ⟨_, _, hV7, ((VStep.pre hE1 hs2).trans (VStep.pre (by repeat (first | assumption | exact Ext.refl _ | refine Ext.alloc ?_ _ | refine Ext.drew ?_ | refine Ext.setB ?_ (by first | omega | (simp only [size_alloc, size_setB, size_drew]; omega)) _ | refine Ext.trans ?_ (by assumption))) hS6)).trans hS7⟩⟩)

set_option maxRecDepth 10000 in
theorem markGone_spec (C : Nat) (c : Array Value) (v : V) (B : VB) (β : Option Nat) (A : List Int) (w : World) (hv : VS w C c v B β) (hA : By A 20) : Ret Hvad.prog 211 #[.pointer (some ⟨C, 2435, none⟩), .agg (ic .u8 A)] w fun u w' => u = .bool (v.markGone A).1 ∧ VRet w C c B β w' (v.markGone A).2 := by
  have hAl := hA.1
  have hlj := hv.ty.lj
  have hai := acct_i32 hv A
  refine Ret_of_W Hvad.func211 rfl rfl ?_
  refine W_seq ?_
  refine W_region rfl ?_
  refine WO_box (.agg _) rfl ?_
  refine WO_p (PS_assign_bool rfl) ?_
  refine WO_nil ?_
  refine thn_normal ?_
  refine W_seq ?_
  refine W_seq ?_
  refine W_region rfl ?_
  refine WO_p (PS_move_ptr rfl) ?_
  refine WO_call Hvad.call73 (by rfl) (Ret.mono (room_spec C c v B β _ (hv.ext (by repeat (first | assumption | exact Ext.refl _ | refine Ext.alloc ?_ _ | refine Ext.drew ?_ | exact Ext.trans (by assumption) (by assumption))))) ?_)
  rintro _ w1 ⟨rfl, hE1⟩
  have hA1 : Hb w1 w.heap.size (.cells (ic .u8 A) 25 (0, 0)) := Hb.ext hE1 (Hb.newY _ _)
  replace hE1 : Ext w w1 := Ext.trans (Ext.alloc (Ext.refl w) _) hE1
  have hv1 := hv.ext hE1
  refine WO_p (PS_not rfl) ?_
  refine WO_nil ?_
  refine thn_normal ?_
  refine W_if rfl (fun hb4 => ?_) (fun hb4 => ?_)
  · have hb4p := hb4.h; simp only [al_ete, al_dfn, Bool.not_eq_true', Bool.not_eq_false', al_ne, Bool.not_not, al_nn] at hb4p
    have h11 : 65536 ≤ v.journal.length := by omega
    refine W_seq ?_
    refine W_region rfl ?_
    refine WO_p (PS_assign_bool rfl) ?_
    refine WO_nil ?_
    refine thn_normal ?_
    refine W_ret ?_
    refine thn_ret ?_
    refine bodyQ_ret1 Hvad.results211 rfl (.bool _) rfl ?_
    first
    | (rw [V.markGone, V.setA, if_pos h11]; exact ⟨rfl, VRet.ext hv hE1⟩)
    | (rw [V.markGone, V.setA, if_neg h11, if_neg (by rw [hok]; decide)]; exact ⟨rfl, ⟨_, _, hv2, VStep.pre hE1 hs2⟩⟩)
    | (rw [V.markGone, V.setA, if_neg h11, if_pos hok, hx]; exact ⟨rfl, ⟨_, _, hV7, ((VStep.pre hE1 hs2).trans (VStep.pre (by repeat (first | assumption | exact Ext.refl _ | refine Ext.alloc ?_ _ | refine Ext.drew ?_ | refine Ext.setB ?_ (by first | omega | (simp only [size_alloc, size_setB, size_drew]; omega)) _ | refine Ext.trans ?_ (by assumption))) hS6)).trans hS7⟩⟩)
  · have hb4p := hb4.h; simp only [al_ete, al_dfn, Bool.not_eq_true', Bool.not_eq_false', al_ne, Bool.not_not, al_nn] at hb4p
    have h11 : ¬ 65536 ≤ v.journal.length := by omega
    refine W_skip ?_
    refine thn_normal ?_
    refine W_seq ?_
    refine W_region rfl ?_
    refine WO_p (PS_move_ptr rfl) ?_
    refine WO_loadA _ Hvad.isAgg25 Hvad.sizeOf25 rfl (Hb.h (by repeat (first | assumption | exact Hb.newY _ _ | refine Hb.alloc ?_ | refine Hb.drew ?_ | refine Hb.ext (by assumption) ?_ | exact Hb.setSameL (by first | omega | (simp only [size_alloc, size_setB, size_drew]; omega)) | exact Hb.setSame (by assumption) | refine Hb.set (by first | omega | (simp only [size_alloc, size_setB, size_drew]; omega)) ?_ ))) (by first | omega | assumption | rfl | decide | (simp only [size_ic, Value.cells]; omega) | simp) (Xt.h (by first | assumption | exact Xt.whole rfl rfl | exact Xt.whole rfl (by simp only [size_ic, Value.cells]; omega) | exact ⟨rfl⟩)) ?_
    refine WO_call Hvad.call53 (by rfl) (Ret.mono (acct_spec C c v B β A _ hv1 hA) ?_)
    rintro _ w2 ⟨rfl, c2, B2, hv2, hs2⟩
    have hb2 := hv2.blk
    have hdj : Ce c2 10629 (.slice (slp B2.j) (v.acct A).2.journal.length (slc B2.j)) := hv2.rep.journal
    refine WO_p (PS_move_tuple rfl) ?_
    refine WO_p (PS_extract_int rfl rfl) ?_
    refine WO_p (PS_extract_bool rfl rfl) ?_
    refine WO_p (PS_assign_int rfl) ?_
    refine WO_p (PS_assign_bool rfl) ?_
    refine WO_nil ?_
    refine thn_normal ?_
    refine W_seq ?_
    refine W_seq ?_
    refine W_region rfl ?_
    refine WO_p (PS_move_bool rfl) ?_
    refine WO_p (PS_not rfl) ?_
    refine WO_nil ?_
    refine thn_normal ?_
    refine W_if rfl (fun hb8 => ?_) (fun hb8 => ?_)
    · have hb8p := hb8.h; simp only [al_ete, al_dfn, Bool.not_eq_true', Bool.not_eq_false', al_ne, Bool.not_not, al_nn] at hb8p
      have hok := hb8p
      refine W_seq ?_
      refine W_region rfl ?_
      refine WO_p (PS_assign_bool rfl) ?_
      refine WO_nil ?_
      refine thn_normal ?_
      refine W_ret ?_
      refine thn_ret ?_
      refine bodyQ_ret1 Hvad.results211 rfl (.bool _) rfl ?_
      first
      | (rw [V.markGone, V.setA, if_pos h11]; exact ⟨rfl, VRet.ext hv hE1⟩)
      | (rw [V.markGone, V.setA, if_neg h11, if_neg (by rw [hok]; decide)]; exact ⟨rfl, ⟨_, _, hv2, VStep.pre hE1 hs2⟩⟩)
      | (rw [V.markGone, V.setA, if_neg h11, if_pos hok, hx]; exact ⟨rfl, ⟨_, _, hV7, ((VStep.pre hE1 hs2).trans (VStep.pre (by repeat (first | assumption | exact Ext.refl _ | refine Ext.alloc ?_ _ | refine Ext.drew ?_ | refine Ext.setB ?_ (by first | omega | (simp only [size_alloc, size_setB, size_drew]; omega)) _ | refine Ext.trans ?_ (by assumption))) hS6)).trans hS7⟩⟩)
    · have hb8p := hb8.h; simp only [al_ete, al_dfn, Bool.not_eq_true', Bool.not_eq_false', al_ne, Bool.not_not, al_nn] at hb8p
      have hok := hb8p
      obtain ⟨ha0, x, hx, hxA⟩ := acct_ok hok
      obtain ⟨b, cap, r, hab, hcap, hr, hrs, hrow, hda, hbd, hil, hty, f0, f1, f2, f3, f4, f5, f6⟩ := hv2.openA hx
      have hlx : x.bal.length = 4 := hty.2.2.1
      have hjj : (v.acct A).2.journal = v.journal := by unfold V.acct; split; rfl; split <;> rfl
      have hjl : (v.acct A).2.journal.length < 65536 := by rw [hjj]; omega
      have hen : (encE ⟨10, (v.acct A).1.1, 0, [0, 0, 0, 0], (none, 0, 0), x.gone⟩).toArray.size = 9 := by simp [encE, hlx]
      refine W_skip ?_
      refine thn_normal ?_
      refine W_seq ?_
      refine W_drawE [false, false, false, false, false, false, false, false, false, false, false, false, false, false, false, true, false, false, false, false] hmix (by kernel_rfl) rfl ?_
      refine WH_p (PS_move_ptr rfl) rfl ?_
      refine WH_p (PS_move_ptr rfl) rfl ?_
      refine WH_p (PS_nilCheck rfl) rfl ?_
      refine WH_p (PS_fieldAddr 8194 Hvad.runUnderlying79 rfl Hvad.sizeOf73 rfl rfl) rfl ?_
      refine WH_load (.slice _ _ _) Hvad.isAgg73 rfl (Hb.h (by repeat (first | assumption | exact Hb.newY _ _ | refine Hb.alloc ?_ | refine Hb.drew ?_ | refine Hb.ext (by assumption) ?_ | exact Hb.setSameL (by first | omega | (simp only [size_alloc, size_setB, size_drew]; omega)) | exact Hb.setSame (by assumption) | refine Hb.set (by first | omega | (simp only [size_alloc, size_setB, size_drew]; omega)) ?_ ))) (Ce.h (by first | assumption | exact ⟨rfl⟩)) ?_
      refine WH_p (PS_move_int rfl) rfl ?_
      refine WH_p (PS_move_ptr rfl) rfl ?_
      refine WH_p (PS_nilCheck rfl) rfl ?_
      refine WH_p (PS_fieldAddr 0 Hvad.runUnderlying79 rfl Hvad.sizeOf70 rfl rfl) rfl ?_
      refine WH_load (.slice _ _ _) Hvad.isAgg70 rfl (Hb.h (by repeat (first | assumption | exact Hb.newY _ _ | refine Hb.alloc ?_ | refine Hb.drew ?_ | refine Hb.ext (by assumption) ?_ | exact Hb.setSameL (by first | omega | (simp only [size_alloc, size_setB, size_drew]; omega)) | exact Hb.setSame (by assumption) | refine Hb.set (by first | omega | (simp only [size_alloc, size_setB, size_drew]; omega)) ?_ ))) (Ce.h (by first | assumption | exact ⟨rfl⟩)) ?_
      refine WH_p (PS_move_int rfl) rfl ?_
      refine WH_p (PS_indexS Hvad.runUnderlying70 Hvad.sizeOf149 rfl rfl (by omega) (by omega)) rfl ?_
      refine WH_p (PS_fieldAddr 28 Hvad.runUnderlying149 rfl Hvad.sizeOf4 rfl rfl) rfl ?_
      refine WH_load (.bool _) Hvad.isAgg4 rfl (Hb.h (by repeat (first | assumption | exact Hb.newY _ _ | refine Hb.alloc ?_ | refine Hb.drew ?_ | refine Hb.ext (by assumption) ?_ | exact Hb.setSameL (by first | omega | (simp only [size_alloc, size_setB, size_drew]; omega)) | exact Hb.setSame (by assumption) | refine Hb.set (by first | omega | (simp only [size_alloc, size_setB, size_drew]; omega)) ?_ ))) (Ce.h (by first | assumption | exact ⟨rfl⟩)) ?_
      refine WH_p (PS_b173_015 rfl rfl rfl) rfl ?_
      refine WH_buildSlice1 Hvad.runUnderlying73 Hvad.sizeOf173 Hvad.zeroValue173 rfl (by first | omega | assumption | rfl | decide | (simp only [size_ic, Value.cells]; omega) | simp) (by decide) (by decide) (fun _ => (by repeat (first | assumption | exact Ext.refl _ | refine Ext.alloc ?_ _ | refine Ext.drew ?_ | exact Ext.trans (by assumption) (by assumption)))) ?_
      refine WH_push_journal (hv2.ext (by repeat (first | assumption | exact Ext.refl _ | refine Ext.alloc ?_ _ | refine Ext.drew ?_ | exact Ext.trans (by assumption) (by assumption)))) rfl rfl (by simpa using hen) (Hb.newY _ _) ⟨⟨by show (0:Int) ≤ 10; decide, by show (10:Int) ≤ 255; decide⟩, hai, ⟨by show (0:Int) ≤ 0; decide, by show (0:Int) ≤ _; decide⟩, Wd0⟩ (Or.inl ⟨rfl, rfl⟩) hjl ?_
      intro s' wA hC hV
      obtain ⟨hV6, hS6⟩ := hV
      refine WH_p (PS_nilCheck rfl) rfl ?_
      refine WH_p (PS_fieldAddr 8194 Hvad.runUnderlying79 rfl Hvad.sizeOf73 rfl rfl) rfl ?_
      refine WH_store1 Hvad.sizeOf73 rfl (v := slv _ _) rfl hC.h rfl (by rw [hv2.rep.size]; decide) rfl (fun h => by cases h) ?_
      refine WH_nil ?_
      refine thn_normal ?_
      refine W_seq ?_
      clear hr hda hrow hbd f0 f1 f2 f3 f4 f5 f6
      have hb6 := hV6.blk
      obtain ⟨b7, cap7, r7, hab7, hcap7, hr7, hrs7, hrow7, hda7, hbd7, hil7, hty7, g0, g1, g2, g3, g4, g5, g6⟩ := hV6.openA (x := x) hx
      refine W_region rfl ?_
      refine WO_p (PS_move_ptr rfl) ?_
      refine WO_p (PS_nilCheck rfl) ?_
      refine WO_p (PS_fieldAddr 0 Hvad.runUnderlying79 rfl Hvad.sizeOf70 rfl rfl) ?_
      refine WO_load (.slice _ _ _) Hvad.isAgg70 rfl (Hb.h (by repeat (first | assumption | exact Hb.newY _ _ | refine Hb.alloc ?_ | refine Hb.drew ?_ | refine Hb.ext (by assumption) ?_ | exact Hb.setSameL (by first | omega | (simp only [size_alloc, size_setB, size_drew]; omega)) | exact Hb.setSame (by assumption) | refine Hb.set (by first | omega | (simp only [size_alloc, size_setB, size_drew]; omega)) ?_ ))) (Ce.h (by first | assumption | exact ⟨rfl⟩)) ?_
      refine WO_p (PS_move_int rfl) ?_
      refine WO_p (PS_indexS Hvad.runUnderlying70 Hvad.sizeOf149 rfl rfl (by omega) (by omega)) ?_
      refine WO_p (PS_fieldAddr 28 Hvad.runUnderlying149 rfl Hvad.sizeOf4 rfl rfl) ?_
      refine WO_store1 Hvad.sizeOf4 rfl (v := .bool _) rfl hr7.h rfl (by omega) rfl ?_
      obtain ⟨hV7, hS7⟩ := hV6.wA_gone hx hab7 hcap7 hr7 hrs7 hrow7 true trivial
      refine WO_nil ?_
      refine thn_normal ?_
      refine W_seq ?_
      refine W_region rfl ?_
      refine WO_p (PS_assign_bool rfl) ?_
      refine WO_nil ?_
      refine thn_normal ?_
      refine W_ret ?_
      refine bodyQ_ret1 Hvad.results211 rfl (.bool _) rfl ?_
      first
      | (rw [V.markGone, V.setA, if_pos h11]; exact ⟨rfl, VRet.ext hv hE1⟩)
      | (rw [V.markGone, V.setA, if_neg h11, if_neg (by rw [hok]; decide)]; exact ⟨rfl, ⟨_, _, hv2, VStep.pre hE1 hs2⟩⟩)
      | (rw [V.markGone, V.setA, if_neg h11, if_pos hok, hx]; exact ⟨rfl, ⟨_, _, hV7, ((VStep.pre hE1 hs2).trans (VStep.pre (by repeat (first | assumption | exact Ext.refl _ | refine Ext.alloc ?_ _ | refine Ext.drew ?_ | refine Ext.setB ?_ (by first | omega | (simp only [size_alloc, size_setB, size_drew]; omega)) _ | refine Ext.trans ?_ (by assumption))) hS6)).trans hS7⟩⟩)

theorem acct_journal (v : V) (A : List Int) : (v.acct A).2.journal = v.journal := by unfold V.acct; split; rfl; split <;> rfl
theorem slot_journal (v : V) (a : Int) (K : List Int) : (v.slot a K).2.journal = v.journal := by unfold V.slot; split; rfl; split <;> rfl
theorem slotOf_journal (v : V) (A K : List Int) : (v.slotOf A K).2.journal = v.journal := by
  unfold V.slotOf; split; rfl; split
  · rw [slot_journal, acct_journal]
  · rw [acct_journal]
set_option maxRecDepth 10000 in
theorem store_spec (C : Nat) (c : Array Value) (v : V) (B : VB) (β : Option Nat) (A K : List Int) (n : List Int) (w : World) (hv : VS w C c v B β) (hA : By A 20) (hK : Wd K) (hn : Wd n) : Ret Hvad.prog 203 #[.pointer (some ⟨C, 2435, none⟩), .agg (ic .u8 A), .agg (ic .u64 K), .agg (ic .u64 n)] w fun u w' => u = .bool (v.store A K n).1 ∧ VRet w C c B β w' (v.store A K n).2 := by
  have hAl := hA.1
  have hKl := hK.1
  have hlj := hv.ty.lj
  refine Ret_of_W Hvad.func203 rfl rfl ?_
  refine W_seq ?_
  refine W_region rfl ?_
  refine WO_box (.agg _) rfl ?_
  refine WO_box (.agg _) rfl ?_
  refine WO_box (.agg _) rfl ?_
  refine WO_p (PS_assign_bool rfl) ?_
  refine WO_nil ?_
  refine thn_normal ?_
  refine W_seq ?_
  refine W_seq ?_
  refine W_region rfl ?_
  refine WO_p (PS_move_ptr rfl) ?_
  refine WO_call Hvad.call73 (by rfl) (Ret.mono (room_spec C c v B β _ (hv.ext (by repeat (first | assumption | exact Ext.refl _ | refine Ext.alloc ?_ _ | refine Ext.drew ?_ | exact Ext.trans (by assumption) (by assumption))))) ?_)
  rintro _ w1 ⟨rfl, hE1⟩
  have hA1 : Hb w1 w.heap.size (.cells (ic .u8 A) 25 (0, 0)) := Hb.ext hE1 (Hb.alloc (Hb.alloc (Hb.newY _ _)))
  have hK1 : Hb w1 (w.alloc _).heap.size (.cells (ic .u64 K) 59 (0, 0)) := Hb.ext hE1 (Hb.alloc (Hb.newY _ _))
  have hX1 : Hb w1 ((w.alloc _).alloc _).heap.size (.cells (ic .u64 n) 59 (0, 0)) := Hb.ext hE1 (Hb.newY _ _)
  replace hE1 : Ext w w1 := Ext.trans (Ext.alloc (Ext.alloc (Ext.alloc (Ext.refl w) _) _) _) hE1
  have hv1 := hv.ext hE1
  refine WO_p (PS_not rfl) ?_
  refine WO_nil ?_
  refine thn_normal ?_
  refine W_if rfl (fun hb4 => ?_) (fun hb4 => ?_)
  · have hb4p := hb4.h; simp only [al_ete, al_dfn, Bool.not_eq_true', Bool.not_eq_false', al_ne, Bool.not_not, al_nn] at hb4p
    have h11 : 65536 ≤ v.journal.length := by omega
    refine W_seq ?_
    refine W_region rfl ?_
    refine WO_p (PS_assign_bool rfl) ?_
    refine WO_nil ?_
    refine thn_normal ?_
    refine W_ret ?_
    refine thn_ret ?_
    refine bodyQ_ret1 Hvad.results203 rfl (.bool _) rfl ?_
    first
    | (rw [V.store, V.setS, if_pos h11]; exact ⟨rfl, VRet.ext hv hE1⟩)
    | (rw [V.store, V.setS, if_neg h11, if_neg (by rw [hok]; decide)]; exact ⟨rfl, ⟨_, _, hv2, VStep.pre hE1 hs2⟩⟩)
    | (rw [V.store, V.setS, if_neg h11, if_pos hok, hx]; exact ⟨rfl, ⟨_, _, hV7, ((VStep.pre hE1 hs2).trans (VStep.pre (by repeat (first | assumption | exact Ext.refl _ | refine Ext.alloc ?_ _ | refine Ext.drew ?_ | refine Ext.setB ?_ (by first | omega | (simp only [size_alloc, size_setB, size_drew]; omega)) _ | refine Ext.trans ?_ (by assumption))) hS6)).trans (VStep.pre (Ext.drew (Ext.refl _)) hS7)⟩⟩)
  · have hb4p := hb4.h; simp only [al_ete, al_dfn, Bool.not_eq_true', Bool.not_eq_false', al_ne, Bool.not_not, al_nn] at hb4p
    have h11 : ¬ 65536 ≤ v.journal.length := by omega
    refine W_skip ?_
    refine thn_normal ?_
    refine W_seq ?_
    refine W_region rfl ?_
    refine WO_p (PS_move_ptr rfl) ?_
    refine WO_loadA _ Hvad.isAgg25 Hvad.sizeOf25 rfl (Hb.h (by repeat (first | assumption | exact Hb.newY _ _ | refine Hb.alloc ?_ | refine Hb.drew ?_ | refine Hb.ext (by assumption) ?_ | exact Hb.setSameL (by first | omega | (simp only [size_alloc, size_setB, size_drew]; omega)) | exact Hb.setSame (by assumption) | refine Hb.set (by first | omega | (simp only [size_alloc, size_setB, size_drew]; omega)) ?_ ))) (by first | omega | assumption | rfl | decide | (simp only [size_ic, Value.cells]; omega) | simp) (Xt.h (by first | assumption | exact Xt.whole rfl rfl | exact Xt.whole rfl (by simp only [size_ic, Value.cells]; omega) | exact ⟨rfl⟩)) ?_
    refine WO_loadA _ Hvad.isAgg59 Hvad.sizeOf59 rfl (Hb.h (by repeat (first | assumption | exact Hb.newY _ _ | refine Hb.alloc ?_ | refine Hb.drew ?_ | refine Hb.ext (by assumption) ?_ | exact Hb.setSameL (by first | omega | (simp only [size_alloc, size_setB, size_drew]; omega)) | exact Hb.setSame (by assumption) | refine Hb.set (by first | omega | (simp only [size_alloc, size_setB, size_drew]; omega)) ?_ ))) (by first | omega | assumption | rfl | decide | (simp only [size_ic, Value.cells]; omega) | simp) (Xt.h (by first | assumption | exact Xt.whole rfl rfl | exact Xt.whole rfl (by simp only [size_ic, Value.cells]; omega) | exact ⟨rfl⟩)) ?_
    refine WO_call Hvad.call127 (by rfl) (Ret.mono (slotOf_spec C c v B β A K _ hv1 hA hK) ?_)
    rintro _ w2 ⟨rfl, c2, B2, hv2, hs2⟩
    have hb2 := hv2.blk
    have hdj : Ce c2 10629 (.slice (slp B2.j) (v.slotOf A K).2.journal.length (slc B2.j)) := hv2.rep.journal
    have hX2 := hs2.hb hv1 hX1 (by decide)
    refine WO_p (PS_move_tuple rfl) ?_
    refine WO_p (PS_extract_int rfl rfl) ?_
    refine WO_p (PS_extract_bool rfl rfl) ?_
    refine WO_p (PS_assign_int rfl) ?_
    refine WO_p (PS_assign_bool rfl) ?_
    refine WO_nil ?_
    refine thn_normal ?_
    refine W_seq ?_
    refine W_seq ?_
    refine W_region rfl ?_
    refine WO_p (PS_move_bool rfl) ?_
    refine WO_p (PS_not rfl) ?_
    refine WO_nil ?_
    refine thn_normal ?_
    refine W_if rfl (fun hb8 => ?_) (fun hb8 => ?_)
    · have hb8p := hb8.h; simp only [al_ete, al_dfn, Bool.not_eq_true', Bool.not_eq_false', al_ne, Bool.not_not, al_nn] at hb8p
      have hok := hb8p
      refine W_seq ?_
      refine W_region rfl ?_
      refine WO_p (PS_assign_bool rfl) ?_
      refine WO_nil ?_
      refine thn_normal ?_
      refine W_ret ?_
      refine thn_ret ?_
      refine bodyQ_ret1 Hvad.results203 rfl (.bool _) rfl ?_
      first
      | (rw [V.store, V.setS, if_pos h11]; exact ⟨rfl, VRet.ext hv hE1⟩)
      | (rw [V.store, V.setS, if_neg h11, if_neg (by rw [hok]; decide)]; exact ⟨rfl, ⟨_, _, hv2, VStep.pre hE1 hs2⟩⟩)
      | (rw [V.store, V.setS, if_neg h11, if_pos hok, hx]; exact ⟨rfl, ⟨_, _, hV7, ((VStep.pre hE1 hs2).trans (VStep.pre (by repeat (first | assumption | exact Ext.refl _ | refine Ext.alloc ?_ _ | refine Ext.drew ?_ | refine Ext.setB ?_ (by first | omega | (simp only [size_alloc, size_setB, size_drew]; omega)) _ | refine Ext.trans ?_ (by assumption))) hS6)).trans (VStep.pre (Ext.drew (Ext.refl _)) hS7)⟩⟩)
    · have hb8p := hb8.h; simp only [al_ete, al_dfn, Bool.not_eq_true', Bool.not_eq_false', al_ne, Bool.not_not, al_nn] at hb8p
      have hok := hb8p
      obtain ⟨ha0, x, hx, hxA⟩ := slotOf_ok hok
      obtain ⟨b, cap, r, hab, hcap, hr, hrs, hrow, hda, hbd, hil, hty, f0, f1, f2, f3, f4⟩ := hv2.openS hx
      have hlx : x.val.length = 4 := hty.2.2.1.1
      have hls2 := hv2.ty.ls
      have hai : I32 (v.slotOf A K).1.1 := by unfold I32; omega
      have hjl : (v.slotOf A K).2.journal.length < 65536 := by rw [slotOf_journal]; omega
      have hen : (encE ⟨3, (v.slotOf A K).1.1, 0, x.val, (none, 0, 0), false⟩).toArray.size = 9 := by simp [encE, hlx]
      refine W_skip ?_
      refine thn_normal ?_
      refine W_seq ?_
      refine W_drawE [false, false, false, false, false, false, false, false, false, false, false, false, false, false, false, true, false, false, false, false] hmix (by kernel_rfl) rfl ?_
      refine WH_p (PS_move_ptr rfl) rfl ?_
      refine WH_p (PS_move_ptr rfl) rfl ?_
      refine WH_p (PS_nilCheck rfl) rfl ?_
      refine WH_p (PS_fieldAddr 8194 Hvad.runUnderlying79 rfl Hvad.sizeOf73 rfl rfl) rfl ?_
      refine WH_load (.slice _ _ _) Hvad.isAgg73 rfl (Hb.h (by repeat (first | assumption | exact Hb.newY _ _ | refine Hb.alloc ?_ | refine Hb.drew ?_ | refine Hb.ext (by assumption) ?_ | exact Hb.setSameL (by first | omega | (simp only [size_alloc, size_setB, size_drew]; omega)) | exact Hb.setSame (by assumption) | refine Hb.set (by first | omega | (simp only [size_alloc, size_setB, size_drew]; omega)) ?_ ))) (Ce.h (by first | assumption | exact ⟨rfl⟩)) ?_
      refine WH_p (PS_move_int rfl) rfl ?_
      refine WH_p (PS_move_ptr rfl) rfl ?_
      refine WH_p (PS_nilCheck rfl) rfl ?_
      refine WH_p (PS_fieldAddr 1 Hvad.runUnderlying79 rfl Hvad.sizeOf71 rfl rfl) rfl ?_
      refine WH_load (.slice _ _ _) Hvad.isAgg71 rfl (Hb.h (by repeat (first | assumption | exact Hb.newY _ _ | refine Hb.alloc ?_ | refine Hb.drew ?_ | refine Hb.ext (by assumption) ?_ | exact Hb.setSameL (by first | omega | (simp only [size_alloc, size_setB, size_drew]; omega)) | exact Hb.setSame (by assumption) | refine Hb.set (by first | omega | (simp only [size_alloc, size_setB, size_drew]; omega)) ?_ ))) (Ce.h (by first | assumption | exact ⟨rfl⟩)) ?_
      refine WH_p (PS_move_int rfl) rfl ?_
      refine WH_p (PS_indexS Hvad.runUnderlying71 Hvad.sizeOf152 rfl rfl (by omega) (by omega)) rfl ?_
      refine WH_p (PS_fieldAddr 5 Hvad.runUnderlying152 rfl Hvad.sizeOf59 rfl rfl) rfl ?_
      refine WH_loadA _ Hvad.isAgg59 Hvad.sizeOf59 rfl (Hb.h (by repeat (first | assumption | exact Hb.newY _ _ | refine Hb.alloc ?_ | refine Hb.drew ?_ | refine Hb.ext (by assumption) ?_ | exact Hb.setSameL (by first | omega | (simp only [size_alloc, size_setB, size_drew]; omega)) | exact Hb.setSame (by assumption) | refine Hb.set (by first | omega | (simp only [size_alloc, size_setB, size_drew]; omega)) ?_ ))) (by first | omega | assumption | rfl | decide | (simp only [size_ic, Value.cells]; omega) | simp) (Xt.h (by first | assumption | exact Xt.whole rfl rfl | exact Xt.whole rfl (by simp only [size_ic, Value.cells]; omega) | exact ⟨rfl⟩)) ?_
      refine WH_p (PS_b173_013 rfl rfl rfl hlx) rfl ?_
      refine WH_buildSlice1 Hvad.runUnderlying73 Hvad.sizeOf173 Hvad.zeroValue173 rfl (by first | omega | assumption | rfl | decide | (simp only [size_ic, Value.cells]; omega) | simp) (by decide) (by decide) (fun _ => (by repeat (first | assumption | exact Ext.refl _ | refine Ext.alloc ?_ _ | refine Ext.drew ?_ | exact Ext.trans (by assumption) (by assumption)))) ?_
      refine WH_push_journal (hv2.ext (by repeat (first | assumption | exact Ext.refl _ | refine Ext.alloc ?_ _ | refine Ext.drew ?_ | exact Ext.trans (by assumption) (by assumption)))) rfl rfl (by simpa using hen) (Hb.newY _ _) ⟨⟨by show (0:Int) ≤ 3; decide, by show (3:Int) ≤ 255; decide⟩, hai, ⟨by show (0:Int) ≤ 0; decide, by show (0:Int) ≤ _; decide⟩, hty.2.2.1⟩ (Or.inl ⟨rfl, rfl⟩) hjl ?_
      intro s' wA hC hV
      obtain ⟨hV6, hS6⟩ := hV
      refine WH_p (PS_nilCheck rfl) rfl ?_
      refine WH_p (PS_fieldAddr 8194 Hvad.runUnderlying79 rfl Hvad.sizeOf73 rfl rfl) rfl ?_
      refine WH_store1 Hvad.sizeOf73 rfl (v := slv _ _) rfl hC.h rfl (by rw [hv2.rep.size]; decide) rfl (fun h => by cases h) ?_
      refine WH_nil ?_
      refine thn_normal ?_
      refine W_seq ?_
      have hX6 := hS6.hb (hv2.ext (by repeat (first | assumption | exact Ext.refl _ | refine Ext.alloc ?_ _ | refine Ext.drew ?_ | refine Ext.setB ?_ (by first | omega | (simp only [size_alloc, size_setB, size_drew]; omega)) _ | refine Ext.trans ?_ (by assumption)))) (Hb.ext (by repeat (first | assumption | exact Ext.refl _ | refine Ext.alloc ?_ _ | refine Ext.drew ?_ | refine Ext.setB ?_ (by first | omega | (simp only [size_alloc, size_setB, size_drew]; omega)) _ | refine Ext.trans ?_ (by assumption))) hX2) (by decide)
      have hnl := hn.1
      clear hr hda hrow hbd f0 f1 f2 f3 f4
      have hb6 := hV6.blk
      obtain ⟨b7, cap7, r7, hab7, hcap7, hr7, hrs7, hrow7, hda7, hbd7, hil7, hty7, g0, g1, g2, g3, g4⟩ := hV6.openS (x := x) hx
      refine W_drawE [false, false, false, false, false, false, false, false, false] hmix (by kernel_rfl) rfl ?_
      refine WH_p (PS_move_ptr rfl) rfl ?_
      refine WH_p (PS_nilCheck rfl) rfl ?_
      refine WH_p (PS_fieldAddr 1 Hvad.runUnderlying79 rfl Hvad.sizeOf71 rfl rfl) rfl ?_
      refine WH_load (.slice _ _ _) Hvad.isAgg71 rfl (Hb.h (by repeat (first | assumption | exact Hb.newY _ _ | refine Hb.alloc ?_ | refine Hb.drew ?_ | refine Hb.ext (by assumption) ?_ | exact Hb.setSameL (by first | omega | (simp only [size_alloc, size_setB, size_drew]; omega)) | exact Hb.setSame (by assumption) | refine Hb.set (by first | omega | (simp only [size_alloc, size_setB, size_drew]; omega)) ?_ ))) (Ce.h (by first | assumption | exact ⟨rfl⟩)) ?_
      refine WH_p (PS_move_int rfl) rfl ?_
      refine WH_loadA _ Hvad.isAgg59 Hvad.sizeOf59 rfl (Hb.h (by repeat (first | assumption | exact Hb.newY _ _ | refine Hb.alloc ?_ | refine Hb.drew ?_ | refine Hb.ext (by assumption) ?_ | exact Hb.setSameL (by first | omega | (simp only [size_alloc, size_setB, size_drew]; omega)) | exact Hb.setSame (by assumption) | refine Hb.set (by first | omega | (simp only [size_alloc, size_setB, size_drew]; omega)) ?_ ))) (by first | omega | assumption | rfl | decide | (simp only [size_ic, Value.cells]; omega) | simp) (Xt.h (by first | assumption | exact Xt.whole rfl rfl | exact Xt.whole rfl (by simp only [size_ic, Value.cells]; omega) | exact ⟨rfl⟩)) ?_
      refine WH_p (PS_indexS Hvad.runUnderlying71 Hvad.sizeOf152 rfl rfl (by omega) (by omega)) rfl ?_
      refine WH_p (PS_fieldAddr 5 Hvad.runUnderlying152 rfl Hvad.sizeOf59 rfl rfl) rfl ?_
      refine WH_store Hvad.sizeOf59 rfl (v := .agg (ic .u64 n)) rfl hr7.h (by first | omega | assumption | rfl | decide | (simp only [size_ic, Value.cells]; omega) | simp) (by omega) (by first | exact oneCell_ic | assumption) (fun h => by cases h) ?_
      obtain ⟨hV7, hS7⟩ := (hV6.ext (Ext.drew (Ext.refl _))).wS_val hx hab7 hcap7 hr7.drew hrs7 hrow7 n hn
      refine WH_nil ?_
      refine thn_normal ?_
      refine W_seq ?_
      refine W_region rfl ?_
      refine WO_p (PS_assign_bool rfl) ?_
      refine WO_nil ?_
      refine thn_normal ?_
      refine W_ret ?_
      refine bodyQ_ret1 Hvad.results203 rfl (.bool _) rfl ?_
      first
      | (rw [V.store, V.setS, if_pos h11]; exact ⟨rfl, VRet.ext hv hE1⟩)
      | (rw [V.store, V.setS, if_neg h11, if_neg (by rw [hok]; decide)]; exact ⟨rfl, ⟨_, _, hv2, VStep.pre hE1 hs2⟩⟩)
      | (rw [V.store, V.setS, if_neg h11, if_pos hok, hx]; exact ⟨rfl, ⟨_, _, hV7, ((VStep.pre hE1 hs2).trans (VStep.pre (by repeat (first | assumption | exact Ext.refl _ | refine Ext.alloc ?_ _ | refine Ext.drew ?_ | refine Ext.setB ?_ (by first | omega | (simp only [size_alloc, size_setB, size_drew]; omega)) _ | refine Ext.trans ?_ (by assumption))) hS6)).trans (VStep.pre (Ext.drew (Ext.refl _)) hS7)⟩⟩)

set_option maxRecDepth 10000 in
theorem warmS_spec (C : Nat) (c : Array Value) (v : V) (B : VB) (β : Option Nat) (A K : List Int) (w : World) (hv : VS w C c v B β) (hA : By A 20) (hK : Wd K) : Ret Hvad.prog 79 #[.pointer (some ⟨C, 2435, none⟩), .agg (ic .u8 A), .agg (ic .u64 K)] w fun u w' => u = .bool (v.warmS A K).1 ∧ VRet w C c B β w' (v.warmS A K).2 := by
  have hAl := hA.1
  have hKl := hK.1
  have hlj := hv.ty.lj
  refine Ret_of_W Hvad.func79 rfl rfl ?_
  refine W_seq ?_
  refine W_region rfl ?_
  refine WO_box (.agg _) rfl ?_
  refine WO_box (.agg _) rfl ?_
  refine WO_p (PS_assign_bool rfl) ?_
  refine WO_nil ?_
  refine thn_normal ?_
  refine W_seq ?_
  refine W_seq ?_
  refine W_region rfl ?_
  refine WO_p (PS_move_ptr rfl) ?_
  refine WO_call Hvad.call73 (by rfl) (Ret.mono (room_spec C c v B β _ (hv.ext (by repeat (first | assumption | exact Ext.refl _ | refine Ext.alloc ?_ _ | refine Ext.drew ?_ | exact Ext.trans (by assumption) (by assumption))))) ?_)
  rintro _ w1 ⟨rfl, hE1⟩
  have hA1 : Hb w1 w.heap.size (.cells (ic .u8 A) 25 (0, 0)) := Hb.ext hE1 (Hb.alloc (Hb.newY _ _))
  have hK1 : Hb w1 (w.alloc _).heap.size (.cells (ic .u64 K) 59 (0, 0)) := Hb.ext hE1 (Hb.newY _ _)
  replace hE1 : Ext w w1 := Ext.trans (Ext.alloc (Ext.alloc (Ext.refl w) _) _) hE1
  have hv1 := hv.ext hE1
  refine WO_p (PS_not rfl) ?_
  refine WO_nil ?_
  refine thn_normal ?_
  refine W_if rfl (fun hb4 => ?_) (fun hb4 => ?_)
  · have hb4p := hb4.h; simp only [al_ete, al_dfn, Bool.not_eq_true', Bool.not_eq_false', al_ne, Bool.not_not, al_nn] at hb4p
    have h11 : 65536 ≤ v.journal.length := by omega
    refine W_seq ?_
    refine W_region rfl ?_
    refine WO_p (PS_assign_bool rfl) ?_
    refine WO_nil ?_
    refine thn_normal ?_
    refine W_ret ?_
    refine thn_ret ?_
    refine bodyQ_ret1 Hvad.results79 rfl (.bool _) rfl ?_
    first
    | (rw [V.warmS, V.setS, if_pos h11]; exact ⟨rfl, VRet.ext hv hE1⟩)
    | (rw [V.warmS, V.setS, if_neg h11, if_neg (by rw [hok]; decide)]; exact ⟨rfl, ⟨_, _, hv2, VStep.pre hE1 hs2⟩⟩)
    | (rw [V.warmS, V.setS, if_neg h11, if_pos hok, hx]; exact ⟨rfl, ⟨_, _, hV7, ((VStep.pre hE1 hs2).trans (VStep.pre (by repeat (first | assumption | exact Ext.refl _ | refine Ext.alloc ?_ _ | refine Ext.drew ?_ | refine Ext.setB ?_ (by first | omega | (simp only [size_alloc, size_setB, size_drew]; omega)) _ | refine Ext.trans ?_ (by assumption))) hS6)).trans hS7⟩⟩)
  · have hb4p := hb4.h; simp only [al_ete, al_dfn, Bool.not_eq_true', Bool.not_eq_false', al_ne, Bool.not_not, al_nn] at hb4p
    have h11 : ¬ 65536 ≤ v.journal.length := by omega
    refine W_skip ?_
    refine thn_normal ?_
    refine W_seq ?_
    refine W_region rfl ?_
    refine WO_p (PS_move_ptr rfl) ?_
    refine WO_loadA _ Hvad.isAgg25 Hvad.sizeOf25 rfl (Hb.h (by repeat (first | assumption | exact Hb.newY _ _ | refine Hb.alloc ?_ | refine Hb.drew ?_ | refine Hb.ext (by assumption) ?_ | exact Hb.setSameL (by first | omega | (simp only [size_alloc, size_setB, size_drew]; omega)) | exact Hb.setSame (by assumption) | refine Hb.set (by first | omega | (simp only [size_alloc, size_setB, size_drew]; omega)) ?_ ))) (by first | omega | assumption | rfl | decide | (simp only [size_ic, Value.cells]; omega) | simp) (Xt.h (by first | assumption | exact Xt.whole rfl rfl | exact Xt.whole rfl (by simp only [size_ic, Value.cells]; omega) | exact ⟨rfl⟩)) ?_
    refine WO_loadA _ Hvad.isAgg59 Hvad.sizeOf59 rfl (Hb.h (by repeat (first | assumption | exact Hb.newY _ _ | refine Hb.alloc ?_ | refine Hb.drew ?_ | refine Hb.ext (by assumption) ?_ | exact Hb.setSameL (by first | omega | (simp only [size_alloc, size_setB, size_drew]; omega)) | exact Hb.setSame (by assumption) | refine Hb.set (by first | omega | (simp only [size_alloc, size_setB, size_drew]; omega)) ?_ ))) (by first | omega | assumption | rfl | decide | (simp only [size_ic, Value.cells]; omega) | simp) (Xt.h (by first | assumption | exact Xt.whole rfl rfl | exact Xt.whole rfl (by simp only [size_ic, Value.cells]; omega) | exact ⟨rfl⟩)) ?_
    refine WO_call Hvad.call127 (by rfl) (Ret.mono (slotOf_spec C c v B β A K _ hv1 hA hK) ?_)
    rintro _ w2 ⟨rfl, c2, B2, hv2, hs2⟩
    have hb2 := hv2.blk
    have hdj : Ce c2 10629 (.slice (slp B2.j) (v.slotOf A K).2.journal.length (slc B2.j)) := hv2.rep.journal
    refine WO_p (PS_move_tuple rfl) ?_
    refine WO_p (PS_extract_int rfl rfl) ?_
    refine WO_p (PS_extract_bool rfl rfl) ?_
    refine WO_p (PS_assign_int rfl) ?_
    refine WO_p (PS_assign_bool rfl) ?_
    refine WO_nil ?_
    refine thn_normal ?_
    refine W_seq ?_
    refine W_seq ?_
    refine W_region rfl ?_
    refine WO_p (PS_move_bool rfl) ?_
    refine WO_p (PS_not rfl) ?_
    refine WO_nil ?_
    refine thn_normal ?_
    refine W_if rfl (fun hb8 => ?_) (fun hb8 => ?_)
    · have hb8p := hb8.h; simp only [al_ete, al_dfn, Bool.not_eq_true', Bool.not_eq_false', al_ne, Bool.not_not, al_nn] at hb8p
      have hok := hb8p
      refine W_seq ?_
      refine W_region rfl ?_
      refine WO_p (PS_assign_bool rfl) ?_
      refine WO_nil ?_
      refine thn_normal ?_
      refine W_ret ?_
      refine thn_ret ?_
      refine bodyQ_ret1 Hvad.results79 rfl (.bool _) rfl ?_
      first
      | (rw [V.warmS, V.setS, if_pos h11]; exact ⟨rfl, VRet.ext hv hE1⟩)
      | (rw [V.warmS, V.setS, if_neg h11, if_neg (by rw [hok]; decide)]; exact ⟨rfl, ⟨_, _, hv2, VStep.pre hE1 hs2⟩⟩)
      | (rw [V.warmS, V.setS, if_neg h11, if_pos hok, hx]; exact ⟨rfl, ⟨_, _, hV7, ((VStep.pre hE1 hs2).trans (VStep.pre (by repeat (first | assumption | exact Ext.refl _ | refine Ext.alloc ?_ _ | refine Ext.drew ?_ | refine Ext.setB ?_ (by first | omega | (simp only [size_alloc, size_setB, size_drew]; omega)) _ | refine Ext.trans ?_ (by assumption))) hS6)).trans hS7⟩⟩)
    · have hb8p := hb8.h; simp only [al_ete, al_dfn, Bool.not_eq_true', Bool.not_eq_false', al_ne, Bool.not_not, al_nn] at hb8p
      have hok := hb8p
      obtain ⟨ha0, x, hx, hxA⟩ := slotOf_ok hok
      obtain ⟨b, cap, r, hab, hcap, hr, hrs, hrow, hda, hbd, hil, hty, f0, f1, f2, f3, f4⟩ := hv2.openS hx
      have hlx : x.val.length = 4 := hty.2.2.1.1
      have hls2 := hv2.ty.ls
      have hai : I32 (v.slotOf A K).1.1 := by unfold I32; omega
      have hjl : (v.slotOf A K).2.journal.length < 65536 := by rw [slotOf_journal]; omega
      have hen : (encE ⟨5, (v.slotOf A K).1.1, 0, [0, 0, 0, 0], (none, 0, 0), x.warm⟩).toArray.size = 9 := by simp [encE, hlx]
      refine W_skip ?_
      refine thn_normal ?_
      refine W_seq ?_
      refine W_drawE [false, false, false, false, false, false, false, false, false, false, false, false, false, false, false, true, false, false, false, false] hmix (by kernel_rfl) rfl ?_
      refine WH_p (PS_move_ptr rfl) rfl ?_
      refine WH_p (PS_move_ptr rfl) rfl ?_
      refine WH_p (PS_nilCheck rfl) rfl ?_
      refine WH_p (PS_fieldAddr 8194 Hvad.runUnderlying79 rfl Hvad.sizeOf73 rfl rfl) rfl ?_
      refine WH_load (.slice _ _ _) Hvad.isAgg73 rfl (Hb.h (by repeat (first | assumption | exact Hb.newY _ _ | refine Hb.alloc ?_ | refine Hb.drew ?_ | refine Hb.ext (by assumption) ?_ | exact Hb.setSameL (by first | omega | (simp only [size_alloc, size_setB, size_drew]; omega)) | exact Hb.setSame (by assumption) | refine Hb.set (by first | omega | (simp only [size_alloc, size_setB, size_drew]; omega)) ?_ ))) (Ce.h (by first | assumption | exact ⟨rfl⟩)) ?_
      refine WH_p (PS_move_int rfl) rfl ?_
      refine WH_p (PS_move_ptr rfl) rfl ?_
      refine WH_p (PS_nilCheck rfl) rfl ?_
      refine WH_p (PS_fieldAddr 1 Hvad.runUnderlying79 rfl Hvad.sizeOf71 rfl rfl) rfl ?_
      refine WH_load (.slice _ _ _) Hvad.isAgg71 rfl (Hb.h (by repeat (first | assumption | exact Hb.newY _ _ | refine Hb.alloc ?_ | refine Hb.drew ?_ | refine Hb.ext (by assumption) ?_ | exact Hb.setSameL (by first | omega | (simp only [size_alloc, size_setB, size_drew]; omega)) | exact Hb.setSame (by assumption) | refine Hb.set (by first | omega | (simp only [size_alloc, size_setB, size_drew]; omega)) ?_ ))) (Ce.h (by first | assumption | exact ⟨rfl⟩)) ?_
      refine WH_p (PS_move_int rfl) rfl ?_
      refine WH_p (PS_indexS Hvad.runUnderlying71 Hvad.sizeOf152 rfl rfl (by omega) (by omega)) rfl ?_
      refine WH_p (PS_fieldAddr 13 Hvad.runUnderlying152 rfl Hvad.sizeOf4 rfl rfl) rfl ?_
      refine WH_load (.bool _) Hvad.isAgg4 rfl (Hb.h (by repeat (first | assumption | exact Hb.newY _ _ | refine Hb.alloc ?_ | refine Hb.drew ?_ | refine Hb.ext (by assumption) ?_ | exact Hb.setSameL (by first | omega | (simp only [size_alloc, size_setB, size_drew]; omega)) | exact Hb.setSame (by assumption) | refine Hb.set (by first | omega | (simp only [size_alloc, size_setB, size_drew]; omega)) ?_ ))) (Ce.h (by first | assumption | exact ⟨rfl⟩)) ?_
      refine WH_p (PS_b173_015 rfl rfl rfl) rfl ?_
      refine WH_buildSlice1 Hvad.runUnderlying73 Hvad.sizeOf173 Hvad.zeroValue173 rfl (by first | omega | assumption | rfl | decide | (simp only [size_ic, Value.cells]; omega) | simp) (by decide) (by decide) (fun _ => (by repeat (first | assumption | exact Ext.refl _ | refine Ext.alloc ?_ _ | refine Ext.drew ?_ | exact Ext.trans (by assumption) (by assumption)))) ?_
      refine WH_push_journal (hv2.ext (by repeat (first | assumption | exact Ext.refl _ | refine Ext.alloc ?_ _ | refine Ext.drew ?_ | exact Ext.trans (by assumption) (by assumption)))) rfl rfl (by simpa using hen) (Hb.newY _ _) ⟨⟨by show (0:Int) ≤ 5; decide, by show (5:Int) ≤ 255; decide⟩, hai, ⟨by show (0:Int) ≤ 0; decide, by show (0:Int) ≤ _; decide⟩, Wd0⟩ (Or.inl ⟨rfl, rfl⟩) hjl ?_
      intro s' wA hC hV
      obtain ⟨hV6, hS6⟩ := hV
      refine WH_p (PS_nilCheck rfl) rfl ?_
      refine WH_p (PS_fieldAddr 8194 Hvad.runUnderlying79 rfl Hvad.sizeOf73 rfl rfl) rfl ?_
      refine WH_store1 Hvad.sizeOf73 rfl (v := slv _ _) rfl hC.h rfl (by rw [hv2.rep.size]; decide) rfl (fun h => by cases h) ?_
      refine WH_nil ?_
      refine thn_normal ?_
      refine W_seq ?_
      clear hr hda hrow hbd f0 f1 f2 f3 f4
      have hb6 := hV6.blk
      obtain ⟨b7, cap7, r7, hab7, hcap7, hr7, hrs7, hrow7, hda7, hbd7, hil7, hty7, g0, g1, g2, g3, g4⟩ := hV6.openS (x := x) hx
      refine W_region rfl ?_
      refine WO_p (PS_move_ptr rfl) ?_
      refine WO_p (PS_nilCheck rfl) ?_
      refine WO_p (PS_fieldAddr 1 Hvad.runUnderlying79 rfl Hvad.sizeOf71 rfl rfl) ?_
      refine WO_load (.slice _ _ _) Hvad.isAgg71 rfl (Hb.h (by repeat (first | assumption | exact Hb.newY _ _ | refine Hb.alloc ?_ | refine Hb.drew ?_ | refine Hb.ext (by assumption) ?_ | exact Hb.setSameL (by first | omega | (simp only [size_alloc, size_setB, size_drew]; omega)) | exact Hb.setSame (by assumption) | refine Hb.set (by first | omega | (simp only [size_alloc, size_setB, size_drew]; omega)) ?_ ))) (Ce.h (by first | assumption | exact ⟨rfl⟩)) ?_
      refine WO_p (PS_move_int rfl) ?_
      refine WO_p (PS_indexS Hvad.runUnderlying71 Hvad.sizeOf152 rfl rfl (by omega) (by omega)) ?_
      refine WO_p (PS_fieldAddr 13 Hvad.runUnderlying152 rfl Hvad.sizeOf4 rfl rfl) ?_
      refine WO_store1 Hvad.sizeOf4 rfl (v := .bool _) rfl hr7.h rfl (by omega) rfl ?_
      obtain ⟨hV7, hS7⟩ := hV6.wS_warm hx hab7 hcap7 hr7 hrs7 hrow7 true trivial
      refine WO_nil ?_
      refine thn_normal ?_
      refine W_seq ?_
      refine W_region rfl ?_
      refine WO_p (PS_assign_bool rfl) ?_
      refine WO_nil ?_
      refine thn_normal ?_
      refine W_ret ?_
      refine bodyQ_ret1 Hvad.results79 rfl (.bool _) rfl ?_
      first
      | (rw [V.warmS, V.setS, if_pos h11]; exact ⟨rfl, VRet.ext hv hE1⟩)
      | (rw [V.warmS, V.setS, if_neg h11, if_neg (by rw [hok]; decide)]; exact ⟨rfl, ⟨_, _, hv2, VStep.pre hE1 hs2⟩⟩)
      | (rw [V.warmS, V.setS, if_neg h11, if_pos hok, hx]; exact ⟨rfl, ⟨_, _, hV7, ((VStep.pre hE1 hs2).trans (VStep.pre (by repeat (first | assumption | exact Ext.refl _ | refine Ext.alloc ?_ _ | refine Ext.drew ?_ | refine Ext.setB ?_ (by first | omega | (simp only [size_alloc, size_setB, size_drew]; omega)) _ | refine Ext.trans ?_ (by assumption))) hS6)).trans hS7⟩⟩)

end Go.Proofs.YgvadwGreat
