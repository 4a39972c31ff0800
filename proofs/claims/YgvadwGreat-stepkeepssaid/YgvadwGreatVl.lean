import Derived.Test.YgvadwGreatVk
namespace Go.Proofs.YgvadwGreat
set_option linter.unusedSimpArgs false
set_option linter.unusedVariables false
theorem VS.own_lt {w : World} {C : Nat} {c : Array Value} {v : V} {B : VB} {β : Option Nat} (hv : VS w C c v B β) {b : Nat} (h : VOwn C B b) : b < w.heap.size := by
  obtain ⟨r, T, hb, _⟩ := hv.own_ty h; exact hb.lt

set_option maxRecDepth 10000 in
theorem putLog_spec (C : Nat) (c : Array Value) (v : V) (B : VB) (β : Option Nat) (A : List Int) (t d : SV) (Lt Ld : List Int) (w : World) (hv : VS w C c v B β) (hA : By A 20) (ht : SC w .u8 32 t Lt) (hd : SC w .u8 1 d Ld) (hot : ∀ b o, t.1 = some ⟨b, o, none⟩ → ¬ VOwn C B b) (hod : ∀ b o, d.1 = some ⟨b, o, none⟩ → ¬ VOwn C B b) : Ret Hvad.prog 264 #[.pointer (some ⟨C, 2435, none⟩), .agg (encL ⟨A, t, d⟩).toArray] w fun u w' => ∃ t' d' : SV, t'.2.1 = t.2.1 ∧ d'.2.1 = d.2.1 ∧ u = .bool (v.putLog ⟨A, t', d'⟩).1 ∧ VRet w C c B β w' (v.putLog ⟨A, t', d'⟩).2 := by
  have hAl := hA.1
  have hlj := hv.ty.lj
  have hll := hv.ty.ll
  have hsz : (encL ⟨A, t, d⟩).toArray.size = 22 := by simp [encL, hAl]
  have hx2 : Xt (encL ⟨A, t, d⟩).toArray 0 (0 + 22) (encL ⟨A, t, d⟩).toArray := Xt.whole rfl hsz
  have hc1 : Ce (encL ⟨A, t, d⟩).toArray (0 + 21) (.slice d.1 d.2.1 d.2.2) := ⟨by simp [encL, hAl, sv, List.getElem?_append]⟩
  have hc2 : Ce (encL ⟨A, t, d⟩).toArray (0 + 20) (.slice t.1 t.2.1 t.2.2) := ⟨by simp [encL, hAl, sv, List.getElem?_append]⟩
  have hen : (encE ⟨7, 0, 0, [0, 0, 0, 0], (none, 0, 0), false⟩).toArray.size = 9 := by simp [encE]
  refine Ret_of_W Hvad.func264 rfl rfl ?_
  refine W_seq ?_
  refine W_region rfl ?_
  refine WO_box (.agg _) rfl ?_
  refine WO_p (PS_assign_bool rfl) ?_
  refine WO_nil ?_
  refine thn_normal ?_
  refine W_seq ?_
  refine W_seq ?_
  refine W_region rfl ?_
  refine WO_p (PS_move_ptr rfl) ?_
  refine WO_call Hvad.call73 (by rfl) (Ret.mono (room_spec C c v B β _ (hv.ext (by repeat (first | assumption | exact Ext.refl _ | refine Ext.alloc ?_ _ | refine Ext.drew ?_ | refine Ext.setB ?_ (by first | omega | (simp only [size_alloc, size_setB, size_drew]; omega)) _ | exact Ext.trans (by assumption) (by assumption) | refine Ext.trans ?_ (by assumption))))) ?_)
  rintro _ w1 ⟨rfl, hE1⟩
  have hB1 : Hb w1 w.heap.size (.cells (encL ⟨A, t, d⟩).toArray 307 (0, 0)) := Hb.ext hE1 (Hb.newY _ _)
  replace hE1 : Ext w w1 := Ext.trans (Ext.alloc (Ext.refl w) _) hE1
  have hv1 := hv.ext hE1
  have hblk := hv1.blk
  have hd_journal : Ce c 10629 (.slice (slp B.j) v.journal.length (slc B.j)) := hv.rep.journal
  have hd_logs : Ce c 27016 (.slice (slp B.l) v.logs.length (slc B.l)) := hv.rep.logs
  refine WO_p (PS_not rfl) ?_
  refine WO_p (PS_move_bool rfl) ?_
  refine WO_if (t := 8) rfl (fun hb4 => ?_) (fun hb4 => ?_)
  · have hb4p := hb4.h; try simp only [al_ete, al_dfn, Bool.not_eq_true', Bool.not_eq_false', al_ne, Bool.not_not, al_nn] at hb4p
    have hc : 65536 ≤ v.journal.length ∨ 2800 ≤ v.logs.length ∨ 4 < t.2.1 ∨ 717280 < d.2.1 := by omega
    refine WO_guardF rfl rfl hb4.h ?_
    refine WO_guardF rfl rfl hb4.h ?_
    refine WO_guardF rfl rfl hb4.h ?_
    refine WO_guardF rfl rfl hb4.h ?_
    refine WO_guardF rfl rfl hb4.h ?_
    refine WO_guardF rfl rfl hb4.h ?_
    refine WO_p (PS_pickT rfl hb4.h rfl) ?_
    refine WO_p (PS_move_bool rfl) ?_
    refine WO_guardF rfl rfl rfl ?_
    refine WO_guardF rfl rfl rfl ?_
    refine WO_guardF rfl rfl rfl ?_
    refine WO_guardF rfl rfl rfl ?_
    refine WO_p (PS_pickT rfl rfl rfl) ?_
    refine WO_p (PS_move_bool rfl) ?_
    refine WO_guardF rfl rfl rfl ?_
    refine WO_guardF rfl rfl rfl ?_
    refine WO_guardF rfl rfl rfl ?_
    refine WO_guardF rfl rfl rfl ?_
    refine WO_p (PS_pickT rfl rfl rfl) ?_
    refine WO_nil ?_
    refine thn_normal ?_
    refine W_condT rfl rfl ?_
    refine W_seq ?_
    refine W_region rfl ?_
    refine WO_p (PS_assign_bool rfl) ?_
    refine WO_nil ?_
    refine thn_normal ?_
    refine W_ret ?_
    refine thn_ret ?_
    refine bodyQ_ret1 Hvad.results264 rfl (.bool _) rfl ?_
    first
    | (refine ⟨t, d, rfl, rfl, ?_⟩; rw [V.putLog, if_pos hc]; exact ⟨rfl, VRet.ext hv hE1⟩)
    | (refine ⟨t5, d5, ht5, hd5, ?_⟩; rw [V.putLog, if_neg (by show ¬ (65536 ≤ v.journal.length ∨ 2800 ≤ v.logs.length ∨ 4 < t5.2.1 ∨ 717280 < d5.2.1); omega)]; exact ⟨rfl, _, _, hV4, hS3'.trans (VStep.pre (by repeat (first | assumption | exact Ext.refl _ | refine Ext.alloc ?_ _ | refine Ext.drew ?_ | refine Ext.setB ?_ (by first | omega | (simp only [size_alloc, size_setB, size_drew]; omega)) _ | refine Ext.trans ?_ (by assumption))) hS4)⟩)
  · have hb4p := hb4.h; try simp only [al_ete, al_dfn, Bool.not_eq_true', Bool.not_eq_false', al_ne, Bool.not_not, al_nn] at hb4p
    refine WO_guardT rfl rfl hb4.h ?_
    refine WO_p (PS_move_ptr rfl) ?_
    refine WO_guardT rfl rfl hb4.h ?_
    refine WO_p (PS_nilCheck rfl) ?_
    refine WO_guardT rfl rfl hb4.h ?_
    refine WO_p (PS_fieldAddr 24581 Hvad.runUnderlying79 rfl Hvad.sizeOf75 rfl rfl) ?_
    refine WO_guardT rfl rfl hb4.h ?_
    refine WO_load (.slice _ _ _) Hvad.isAgg75 rfl (Hb.h (by repeat (first | assumption | exact Hb.newY _ _ | refine Hb.alloc ?_ | refine Hb.drew ?_ | refine Hb.ext (by assumption) ?_ | exact Hb.setSameL (by first | omega | (simp only [size_alloc, size_setB, size_drew]; omega)) | exact Hb.setSame (by assumption) | refine Hb.set (by first | omega | (simp only [size_alloc, size_setB, size_drew]; omega)) ?_ ))) (Ce.h (by first | assumption | exact ⟨rfl⟩)) ?_
    refine WO_guardT rfl rfl hb4.h ?_
    refine WO_p (PS_lenS Hvad.runUnderlying75 rfl) ?_
    refine WO_guardT rfl rfl hb4.h ?_
    refine WO_p (PS_geq rfl rfl) ?_
    refine WO_p (PS_pickF rfl hb4.h rfl) ?_
    refine WO_p (PS_move_bool rfl) ?_
    refine WO_if (t := 16) rfl (fun hb6 => ?_) (fun hb6 => ?_)
    · have hb6p := hb6.h; try simp only [al_ete, al_dfn, Bool.not_eq_true', Bool.not_eq_false', al_ne, Bool.not_not, al_nn] at hb6p
      have hc : 65536 ≤ v.journal.length ∨ 2800 ≤ v.logs.length ∨ 4 < t.2.1 ∨ 717280 < d.2.1 := by omega
      refine WO_guardF rfl rfl hb6.h ?_
      refine WO_guardF rfl rfl hb6.h ?_
      refine WO_guardF rfl rfl hb6.h ?_
      refine WO_guardF rfl rfl hb6.h ?_
      refine WO_p (PS_pickT rfl hb6.h rfl) ?_
      refine WO_p (PS_move_bool rfl) ?_
      refine WO_guardF rfl rfl rfl ?_
      refine WO_guardF rfl rfl rfl ?_
      refine WO_guardF rfl rfl rfl ?_
      refine WO_guardF rfl rfl rfl ?_
      refine WO_p (PS_pickT rfl rfl rfl) ?_
      refine WO_nil ?_
      refine thn_normal ?_
      refine W_condT rfl rfl ?_
      refine W_seq ?_
      refine W_region rfl ?_
      refine WO_p (PS_assign_bool rfl) ?_
      refine WO_nil ?_
      refine thn_normal ?_
      refine W_ret ?_
      refine thn_ret ?_
      refine bodyQ_ret1 Hvad.results264 rfl (.bool _) rfl ?_
      first
      | (refine ⟨t, d, rfl, rfl, ?_⟩; rw [V.putLog, if_pos hc]; exact ⟨rfl, VRet.ext hv hE1⟩)
      | (refine ⟨t5, d5, ht5, hd5, ?_⟩; rw [V.putLog, if_neg (by show ¬ (65536 ≤ v.journal.length ∨ 2800 ≤ v.logs.length ∨ 4 < t5.2.1 ∨ 717280 < d5.2.1); omega)]; exact ⟨rfl, _, _, hV4, hS3'.trans (VStep.pre (by repeat (first | assumption | exact Ext.refl _ | refine Ext.alloc ?_ _ | refine Ext.drew ?_ | refine Ext.setB ?_ (by first | omega | (simp only [size_alloc, size_setB, size_drew]; omega)) _ | refine Ext.trans ?_ (by assumption))) hS4)⟩)
    · have hb6p := hb6.h; try simp only [al_ete, al_dfn, Bool.not_eq_true', Bool.not_eq_false', al_ne, Bool.not_not, al_nn] at hb6p
      refine WO_guardT rfl rfl hb6.h ?_
      refine WO_p (PS_fieldAddr 20 Hvad.runUnderlying307 rfl Hvad.sizeOf29 rfl rfl) ?_
      refine WO_guardT rfl rfl hb6.h ?_
      refine WO_load (.slice _ _ _) Hvad.isAgg29 rfl (Hb.h (by repeat (first | assumption | exact Hb.newY _ _ | refine Hb.alloc ?_ | refine Hb.drew ?_ | refine Hb.ext (by assumption) ?_ | exact Hb.setSameL (by first | omega | (simp only [size_alloc, size_setB, size_drew]; omega)) | exact Hb.setSame (by assumption) | refine Hb.set (by first | omega | (simp only [size_alloc, size_setB, size_drew]; omega)) ?_ ))) (Ce.h (by first | assumption | exact ⟨rfl⟩)) ?_
      refine WO_guardT rfl rfl hb6.h ?_
      refine WO_p (PS_lenS Hvad.runUnderlying29 rfl) ?_
      refine WO_guardT rfl rfl hb6.h ?_
      refine WO_p (PS_gtr rfl rfl) ?_
      refine WO_p (PS_pickF rfl hb6.h rfl) ?_
      refine WO_p (PS_move_bool rfl) ?_
      refine WO_if (t := 22) rfl (fun hb8 => ?_) (fun hb8 => ?_)
      · have hb8p := hb8.h; try simp only [al_ete, al_dfn, Bool.not_eq_true', Bool.not_eq_false', al_ne, Bool.not_not, al_nn] at hb8p
        have hc : 65536 ≤ v.journal.length ∨ 2800 ≤ v.logs.length ∨ 4 < t.2.1 ∨ 717280 < d.2.1 := by omega
        refine WO_guardF rfl rfl hb8.h ?_
        refine WO_guardF rfl rfl hb8.h ?_
        refine WO_guardF rfl rfl hb8.h ?_
        refine WO_guardF rfl rfl hb8.h ?_
        refine WO_p (PS_pickT rfl hb8.h rfl) ?_
        refine WO_nil ?_
        refine thn_normal ?_
        refine W_condT rfl rfl ?_
        refine W_seq ?_
        refine W_region rfl ?_
        refine WO_p (PS_assign_bool rfl) ?_
        refine WO_nil ?_
        refine thn_normal ?_
        refine W_ret ?_
        refine thn_ret ?_
        refine bodyQ_ret1 Hvad.results264 rfl (.bool _) rfl ?_
        first
        | (refine ⟨t, d, rfl, rfl, ?_⟩; rw [V.putLog, if_pos hc]; exact ⟨rfl, VRet.ext hv hE1⟩)
        | (refine ⟨t5, d5, ht5, hd5, ?_⟩; rw [V.putLog, if_neg (by show ¬ (65536 ≤ v.journal.length ∨ 2800 ≤ v.logs.length ∨ 4 < t5.2.1 ∨ 717280 < d5.2.1); omega)]; exact ⟨rfl, _, _, hV4, hS3'.trans (VStep.pre (by repeat (first | assumption | exact Ext.refl _ | refine Ext.alloc ?_ _ | refine Ext.drew ?_ | refine Ext.setB ?_ (by first | omega | (simp only [size_alloc, size_setB, size_drew]; omega)) _ | refine Ext.trans ?_ (by assumption))) hS4)⟩)
      · have hb8p := hb8.h; try simp only [al_ete, al_dfn, Bool.not_eq_true', Bool.not_eq_false', al_ne, Bool.not_not, al_nn] at hb8p
        refine WO_guardT rfl rfl hb8.h ?_
        refine WO_p (PS_fieldAddr 21 Hvad.runUnderlying307 rfl Hvad.sizeOf32 rfl rfl) ?_
        refine WO_guardT rfl rfl hb8.h ?_
        refine WO_load (.slice _ _ _) Hvad.isAgg32 rfl (Hb.h (by repeat (first | assumption | exact Hb.newY _ _ | refine Hb.alloc ?_ | refine Hb.drew ?_ | refine Hb.ext (by assumption) ?_ | exact Hb.setSameL (by first | omega | (simp only [size_alloc, size_setB, size_drew]; omega)) | exact Hb.setSame (by assumption) | refine Hb.set (by first | omega | (simp only [size_alloc, size_setB, size_drew]; omega)) ?_ ))) (Ce.h (by first | assumption | exact ⟨rfl⟩)) ?_
        refine WO_guardT rfl rfl hb8.h ?_
        refine WO_p (PS_lenS Hvad.runUnderlying32 rfl) ?_
        refine WO_guardT rfl rfl hb8.h ?_
        refine WO_p (PS_gtr rfl rfl) ?_
        refine WO_p (PS_pickF rfl hb8.h rfl) ?_
        refine WO_nil ?_
        refine thn_normal ?_
        refine W_if rfl (fun hb10 => ?_) (fun hb10 => ?_)
        · have hb10p := hb10.h; try simp only [al_ete, al_dfn, Bool.not_eq_true', Bool.not_eq_false', al_ne, Bool.not_not, al_nn] at hb10p
          have hc : 65536 ≤ v.journal.length ∨ 2800 ≤ v.logs.length ∨ 4 < t.2.1 ∨ 717280 < d.2.1 := by omega
          refine W_seq ?_
          refine W_region rfl ?_
          refine WO_p (PS_assign_bool rfl) ?_
          refine WO_nil ?_
          refine thn_normal ?_
          refine W_ret ?_
          refine thn_ret ?_
          refine bodyQ_ret1 Hvad.results264 rfl (.bool _) rfl ?_
          first
          | (refine ⟨t, d, rfl, rfl, ?_⟩; rw [V.putLog, if_pos hc]; exact ⟨rfl, VRet.ext hv hE1⟩)
          | (refine ⟨t5, d5, ht5, hd5, ?_⟩; rw [V.putLog, if_neg (by show ¬ (65536 ≤ v.journal.length ∨ 2800 ≤ v.logs.length ∨ 4 < t5.2.1 ∨ 717280 < d5.2.1); omega)]; exact ⟨rfl, _, _, hV4, hS3'.trans (VStep.pre (by repeat (first | assumption | exact Ext.refl _ | refine Ext.alloc ?_ _ | refine Ext.drew ?_ | refine Ext.setB ?_ (by first | omega | (simp only [size_alloc, size_setB, size_drew]; omega)) _ | refine Ext.trans ?_ (by assumption))) hS4)⟩)
        · have hb10p := hb10.h; try simp only [al_ete, al_dfn, Bool.not_eq_true', Bool.not_eq_false', al_ne, Bool.not_not, al_nn] at hb10p
          have hc : ¬ (65536 ≤ v.journal.length ∨ 2800 ≤ v.logs.length ∨ 4 < t.2.1 ∨ 717280 < d.2.1) := by omega
          refine W_skip ?_
          refine thn_normal ?_
          refine W_seq ?_
          refine W_region rfl ?_
          refine WO_p (PS_move_ptr rfl) ?_
          refine WO_p (PS_move_ptr rfl) ?_
          refine WO_p (PS_nilCheck rfl) ?_
          refine WO_p (PS_fieldAddr 8194 Hvad.runUnderlying79 rfl Hvad.sizeOf73 rfl rfl) ?_
          refine WO_load (.slice _ _ _) Hvad.isAgg73 rfl (Hb.h (by repeat (first | assumption | exact Hb.newY _ _ | refine Hb.alloc ?_ | refine Hb.drew ?_ | refine Hb.ext (by assumption) ?_ | exact Hb.setSameL (by first | omega | (simp only [size_alloc, size_setB, size_drew]; omega)) | exact Hb.setSame (by assumption) | refine Hb.set (by first | omega | (simp only [size_alloc, size_setB, size_drew]; omega)) ?_ ))) (Ce.h (by first | assumption | exact ⟨rfl⟩)) ?_
          refine WO_p (PS_b173_0 rfl) ?_
          refine WO_buildSlice1 Hvad.runUnderlying73 Hvad.sizeOf173 Hvad.zeroValue173 rfl (by first | omega | assumption | rfl | decide | (simp only [size_ic, Value.cells]; omega) | simp) (by decide) (by decide) ?_
          refine WO_push_journal (hv1.ext (by repeat (first | assumption | exact Ext.refl _ | refine Ext.alloc ?_ _ | refine Ext.drew ?_ | refine Ext.setB ?_ (by first | omega | (simp only [size_alloc, size_setB, size_drew]; omega)) _ | exact Ext.trans (by assumption) (by assumption) | refine Ext.trans ?_ (by assumption)))) rfl rfl (by simpa using hen) (Hb.newY _ _) ⟨⟨by show (0:Int) ≤ 7; decide, by show (7:Int) ≤ 255; decide⟩, ⟨by show _ ≤ (0:Int); decide, by show (0:Int) ≤ _; decide⟩, ⟨by show (0:Int) ≤ 0; decide, by show (0:Int) ≤ _; decide⟩, Wd0⟩ (Or.inl ⟨rfl, rfl⟩) (by omega) ?_
          intro s' wA hC hV
          obtain ⟨hV3, hS3⟩ := hV
          refine WO_p (PS_nilCheck rfl) ?_
          refine WO_p (PS_fieldAddr 8194 Hvad.runUnderlying79 rfl Hvad.sizeOf73 rfl rfl) ?_
          refine WO_store1 Hvad.sizeOf73 rfl (v := slv _ _) rfl hC.h rfl (by rw [hv1.rep.size]; decide) rfl ?_
          have hS3' := VStep.pre (Ext.trans hE1 (by repeat (first | assumption | exact Ext.refl _ | refine Ext.alloc ?_ _ | refine Ext.drew ?_ | refine Ext.setB ?_ (by first | omega | (simp only [size_alloc, size_setB, size_drew]; omega)) _ | exact Ext.trans (by assumption) (by assumption) | refine Ext.trans ?_ (by assumption)))) hS3
          have hB3 := Hb.keepO hS3.keep (fun h => absurd (hv.own_lt h) (Nat.lt_irrefl _)) (Hb.ext (by repeat (first | assumption | exact Ext.refl _ | refine Ext.alloc ?_ _ | refine Ext.drew ?_ | refine Ext.setB ?_ (by first | omega | (simp only [size_alloc, size_setB, size_drew]; omega)) _ | exact Ext.trans (by assumption) (by assumption) | refine Ext.trans ?_ (by assumption))) hB1)
          have ht3 := ht.keepB hS3'.keep hot
          have hd3 := hd.keepB hS3'.keep hod
          clear hblk hd_logs
          have hblk := hV3.blk
          have hd_logs : Ce _ 27016 (.slice (slp B.l) v.logs.length (slc B.l)) := hV3.rep.logs
          refine WO_nil ?_
          refine thn_normal ?_
          refine W_seq ?_
          refine W_drawE [false, false, false, false, false, false, true, true, false, false, false, false] hmix (by kernel_rfl) rfl ?_
          refine WH_p (PS_move_ptr rfl) rfl ?_
          refine WH_p (PS_move_ptr rfl) rfl ?_
          refine WH_p (PS_nilCheck rfl) rfl ?_
          refine WH_p (PS_fieldAddr 24581 Hvad.runUnderlying79 rfl Hvad.sizeOf75 rfl rfl) rfl ?_
          refine WH_load (.slice _ _ _) Hvad.isAgg75 rfl (Hb.h (by repeat (first | assumption | exact Hb.newY _ _ | refine Hb.alloc ?_ | refine Hb.drew ?_ | refine Hb.ext (by assumption) ?_ | exact Hb.setSameL (by first | omega | (simp only [size_alloc, size_setB, size_drew]; omega)) | exact Hb.setSame (by assumption) | refine Hb.set (by first | omega | (simp only [size_alloc, size_setB, size_drew]; omega)) ?_ ))) (Ce.h (by first | assumption | exact ⟨rfl⟩)) ?_
          refine WH_loadA _ Hvad.isAgg307 Hvad.sizeOf307 rfl (Hb.h (by repeat (first | assumption | exact Hb.newY _ _ | refine Hb.alloc ?_ | refine Hb.drew ?_ | refine Hb.ext (by assumption) ?_ | exact Hb.setSameL (by first | omega | (simp only [size_alloc, size_setB, size_drew]; omega)) | exact Hb.setSame (by assumption) | refine Hb.set (by first | omega | (simp only [size_alloc, size_setB, size_drew]; omega)) ?_ ))) (by first | omega | assumption | rfl | decide | (simp only [size_ic, Value.cells]; omega) | simp) (Xt.h (by first | assumption | exact Xt.whole rfl rfl | exact Xt.whole rfl (by simp only [size_ic, Value.cells]; omega) | exact ⟨rfl⟩)) ?_
          refine WH_call Hvad.call283 (by rfl) (Ret.mono (copiedLog_spec A t d Lt Ld _ hA (ht3.ext (by repeat (first | assumption | exact Ext.refl _ | refine Ext.alloc ?_ _ | refine Ext.drew ?_ | refine Ext.setB ?_ (by first | omega | (simp only [size_alloc, size_setB, size_drew]; omega)) _ | exact Ext.trans (by assumption) (by assumption) | refine Ext.trans ?_ (by assumption)))) (hd3.ext (by repeat (first | assumption | exact Ext.refl _ | refine Ext.alloc ?_ _ | refine Ext.drew ?_ | refine Ext.setB ?_ (by first | omega | (simp only [size_alloc, size_setB, size_drew]; omega)) _ | exact Ext.trans (by assumption) (by assumption) | refine Ext.trans ?_ (by assumption)))) (by omega) (by omega)) ?_)
          rintro _ w5 ⟨hE5, t5, d5, ht5, hd5, rfl⟩
          refine ⟨fun _ => (by repeat (first | assumption | exact Ext.refl _ | refine Ext.alloc ?_ _ | refine Ext.drew ?_ | refine Ext.setB ?_ (by first | omega | (simp only [size_alloc, size_setB, size_drew]; omega)) _ | exact Ext.trans (by assumption) (by assumption) | refine Ext.trans ?_ (by assumption))), ?_⟩
          have hsz5 : (encL ⟨A, t5, d5⟩).toArray.size = 22 := by simp [encL, hAl]
          refine WH_buildSlice1 Hvad.runUnderlying75 Hvad.sizeOf307 Hvad.zeroValue307 rfl (by first | omega | assumption | rfl | decide | (simp only [size_ic, Value.cells]; omega) | simp) (by decide) (by decide) (fun _ => (by repeat (first | assumption | exact Ext.refl _ | refine Ext.alloc ?_ _ | refine Ext.drew ?_ | refine Ext.setB ?_ (by first | omega | (simp only [size_alloc, size_setB, size_drew]; omega)) _ | exact Ext.trans (by assumption) (by assumption) | refine Ext.trans ?_ (by assumption)))) ?_
          refine WH_push_logs (x := ⟨A, t5, d5⟩) (hV3.ext (by repeat (first | assumption | exact Ext.refl _ | refine Ext.alloc ?_ _ | refine Ext.drew ?_ | refine Ext.setB ?_ (by first | omega | (simp only [size_alloc, size_setB, size_drew]; omega)) _ | exact Ext.trans (by assumption) (by assumption) | refine Ext.trans ?_ (by assumption)))) rfl rfl (by simpa using hsz5) (Hb.newY _ _) hA (by show v.logs.length < 2800; omega) ?_
          intro s'' wB hC4 hV
          obtain ⟨hV4, hS4⟩ := hV
          refine WH_p (PS_nilCheck rfl) rfl ?_
          refine WH_p (PS_fieldAddr 24581 Hvad.runUnderlying79 rfl Hvad.sizeOf75 rfl rfl) rfl ?_
          refine WH_store1 Hvad.sizeOf75 rfl (v := slv _ _) rfl hC4.h rfl (by rw [hV3.rep.size]; decide) rfl (fun h => by cases h) ?_
          refine WH_nil ?_
          refine thn_normal ?_
          refine W_seq ?_
          refine W_region rfl ?_
          refine WO_p (PS_assign_bool rfl) ?_
          refine WO_nil ?_
          refine thn_normal ?_
          refine W_ret ?_
          refine bodyQ_ret1 Hvad.results264 rfl (.bool _) rfl ?_
          first
          | (refine ⟨t, d, rfl, rfl, ?_⟩; rw [V.putLog, if_pos hc]; exact ⟨rfl, VRet.ext hv hE1⟩)
          | (refine ⟨t5, d5, ht5, hd5, ?_⟩; rw [V.putLog, if_neg (by show ¬ (65536 ≤ v.journal.length ∨ 2800 ≤ v.logs.length ∨ 4 < t5.2.1 ∨ 717280 < d5.2.1); omega)]; exact ⟨rfl, _, _, hV4, hS3'.trans (VStep.pre (by repeat (first | assumption | exact Ext.refl _ | refine Ext.alloc ?_ _ | refine Ext.drew ?_ | refine Ext.setB ?_ (by first | omega | (simp only [size_alloc, size_setB, size_drew]; omega)) _ | refine Ext.trans ?_ (by assumption))) hS4)⟩)

end Go.Proofs.YgvadwGreat
