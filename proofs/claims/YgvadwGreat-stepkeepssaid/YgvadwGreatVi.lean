import Derived.Test.YgvadwGreatVh
namespace Go.Proofs.YgvadwGreat
set_option linter.unusedSimpArgs false
set_option linter.unusedVariables false
/-- the journal's last step may be taken back -/
abbrev V.canUndo (v : V) : Prop := ¬ (v.journal.length = 0 ∨ (v.live (v.nmarks - 1) = true ∧ (v.journal.length : Int) ≤ v.marks (v.nmarks - 1).toNat))
def V.undoOne (v : V) : Option V :=
  if v.canUndo then (match v.journal[v.journal.length - 1]? with
    | some e => (v.undo e).map fun u => { u with journal := u.journal.take (v.journal.length - 1) }
    | none => none) else none
def V.undoAll : Nat → V → V
  | 0, v => v
  | f + 1, v => match v.undoOne with | some u => V.undoAll f u | none => v
def V.revertTo (v : V) (id : Int) : Bool × V := if v.live id = true then (true, { (V.undoAll v.journal.length { v with nmarks := id + 1 }) with nmarks := id }) else (false, v)
theorem undo_journal {v u : V} {e : Entry} (h : v.undo e = some u) : u.journal = v.journal ∧ u.nmarks = v.nmarks ∧ u.marks = v.marks := by
  unfold V.undo at h
  split at h
  · split at h
    · cases h
    · rw [Option.map_eq_some_iff] at h; obtain ⟨x, _, rfl⟩ := h; exact ⟨rfl, rfl, rfl⟩
  · split at h
    · split at h
      · cases h
      · rw [Option.map_eq_some_iff] at h; obtain ⟨x, _, rfl⟩ := h; exact ⟨rfl, rfl, rfl⟩
    · split at h
      · split at h
        · cases h
        · rw [Option.map_eq_some_iff] at h; obtain ⟨x, _, rfl⟩ := h; exact ⟨rfl, rfl, rfl⟩
      · split at h
        · injection h with h; subst h; exact ⟨rfl, rfl, rfl⟩
        · split at h
          · split at h
            · cases h
            · injection h with h; subst h; exact ⟨rfl, rfl, rfl⟩
          · cases h
theorem undoOne_journal {v u : V} (h : v.undoOne = some u) : u.journal = v.journal.take (v.journal.length - 1) ∧ u.nmarks = v.nmarks ∧ u.marks = v.marks ∧ 0 < v.journal.length := by
  unfold V.undoOne at h
  split at h
  · rename_i hc
    split at h
    · rw [Option.map_eq_some_iff] at h
      obtain ⟨x, hx, rfl⟩ := h
      obtain ⟨h1, h2, h3⟩ := undo_journal hx
      exact ⟨by show x.journal.take _ = _; rw [h1], h2, h3, by unfold V.canUndo at hc; omega⟩
    · cases h
  · cases h
theorem undoAll_nmarks : ∀ (f : Nat) (v : V), (V.undoAll f v).nmarks = v.nmarks
  | 0, v => rfl
  | f + 1, v => by
    unfold V.undoAll
    split
    · rename_i u hu; rw [undoAll_nmarks f u, (undoOne_journal hu).2.1]
    · rfl

set_option maxRecDepth 10000 in
theorem undoOne_spec (C : Nat) (c : Array Value) (v : V) (B : VB) (β : Option Nat) (w : World) (hv : VS w C c v B β) (hnm : 0 ≤ v.nmarks ∧ v.nmarks ≤ 16384) : Ret Hvad.prog 223 #[.pointer (some ⟨C, 2435, none⟩)] w fun u w' => u = .bool v.undoOne.isSome ∧ VRet w C c B β w' (v.undoOne.getD v) := by
  have hblk := hv.blk
  have hcn := hv.rep.nmarks
  have hlj := hv.ty.lj
  have hdj : Ce c 10629 (.slice (slp B.j) v.journal.length (slc B.j)) := hv.rep.journal
  refine Ret_of_W Hvad.func223 rfl rfl ?_
  refine W_seq ?_
  refine W_region rfl ?_
  refine WO_p (PS_assign_bool rfl) ?_
  refine WO_nil ?_
  refine thn_normal ?_
  refine W_seq ?_
  refine W_region rfl ?_
  refine WO_p (PS_move_ptr rfl) ?_
  refine WO_p (PS_nilCheck rfl) ?_
  refine WO_p (PS_fieldAddr 8194 Hvad.runUnderlying79 rfl Hvad.sizeOf73 rfl rfl) ?_
  refine WO_load (.slice _ _ _) Hvad.isAgg73 rfl (Hb.h (by repeat (first | assumption | exact Hb.newY _ _ | refine Hb.alloc ?_ | refine Hb.drew ?_ | refine Hb.ext (by assumption) ?_ | exact Hb.setSameL (by first | omega | (simp only [size_alloc, size_setB, size_drew]; omega)) | exact Hb.setSame (by assumption) | refine Hb.set (by first | omega | (simp only [size_alloc, size_setB, size_drew]; omega)) ?_ ))) (Ce.h (by first | assumption | exact ⟨rfl⟩)) ?_
  refine WO_p (PS_lenS Hvad.runUnderlying73 rfl) ?_
  refine WO_p (PS_assign_int rfl) ?_
  refine WO_nil ?_
  refine thn_normal ?_
  refine W_seq ?_
  refine W_seq ?_
  refine W_drawE [false, false, false, false, false, false, false, false, false, true, false, false, false, false, false, false, false, false, false, false, false, false, false, false, false, false] hmix (by kernel_rfl) rfl ?_
  refine WH_p (PS_move_int rfl) rfl ?_
  refine WH_p (PS_eql rfl rfl) rfl ?_
  refine WH_p (PS_move_bool rfl) rfl ?_
  refine WH_if (t := 11) rfl (fun hb2 => ?_) (fun hb2 => ?_)
  · have hb2p := hb2.h; try simp only [al_ete, al_dfn, Bool.not_eq_true', Bool.not_eq_false', al_ne, Bool.not_not, al_nn] at hb2p
    have hcu : ¬ v.canUndo := by unfold V.canUndo; omega
    refine WH_guardF rfl rfl hb2.h ?_
    refine WH_guardF rfl rfl hb2.h ?_
    refine WH_guardF rfl rfl hb2.h ?_
    refine WH_guardF rfl rfl hb2.h ?_
    refine WH_guardF rfl rfl hb2.h ?_
    refine WH_guardF rfl rfl hb2.h ?_
    refine WH_guardF rfl rfl hb2.h ?_
    refine WH_guardF rfl rfl hb2.h ?_
    refine WH_guardU rfl rfl ?_
    refine WH_guardU rfl rfl ?_
    refine WH_guardU rfl rfl ?_
    refine WH_guardU rfl rfl ?_
    refine WH_guardU rfl rfl ?_
    refine WH_guardU rfl rfl ?_
    refine WH_guardU rfl rfl ?_
    refine WH_guardU rfl rfl ?_
    refine WH_guardU rfl rfl ?_
    refine WH_guardU rfl rfl ?_
    refine WH_guardU rfl rfl ?_
    refine WH_guardU rfl rfl ?_
    refine WH_guardU rfl rfl ?_
    refine WH_guardF rfl rfl hb2.h ?_
    refine WH_p (PS_pickT rfl hb2.h rfl) rfl ?_
    refine WH_nil ?_
    refine thn_normal ?_
    refine W_condT rfl rfl ?_
    refine W_seq ?_
    refine W_region rfl ?_
    refine WO_p (PS_assign_bool rfl) ?_
    refine WO_nil ?_
    refine thn_normal ?_
    refine W_ret ?_
    refine thn_ret ?_
    refine bodyQ_ret1 Hvad.results223 rfl (.bool _) rfl ?_
    first
    | (rw [V.undoOne, if_neg hcu]; exact ⟨rfl, VRet.ext hv (by repeat (first | assumption | exact Ext.refl _ | refine Ext.alloc ?_ _ | refine Ext.drew ?_ | refine Ext.setB ?_ (by first | omega | (simp only [size_alloc, size_setB, size_drew]; omega)) _ | refine Ext.trans ?_ (by assumption)))⟩)
    | (rw [V.undoOne, if_pos hcu, he]; simp only [hun]; rw [hun] at hv2; exact ⟨rfl, _, _, hv2, VStep.pre (by repeat (first | assumption | exact Ext.refl _ | refine Ext.alloc ?_ _ | refine Ext.drew ?_ | refine Ext.setB ?_ (by first | omega | (simp only [size_alloc, size_setB, size_drew]; omega)) _ | refine Ext.trans ?_ (by assumption))) hs2⟩)
    | (rw [V.undoOne, if_pos hcu, he]; simp only [hun]; exact ⟨rfl, _, _, hV, (VStep.pre (by repeat (first | assumption | exact Ext.refl _ | refine Ext.alloc ?_ _ | refine Ext.drew ?_ | refine Ext.setB ?_ (by first | omega | (simp only [size_alloc, size_setB, size_drew]; omega)) _ | refine Ext.trans ?_ (by assumption))) hs2).trans hS⟩)
  · have hb2p := hb2.h; try simp only [al_ete, al_dfn, Bool.not_eq_true', Bool.not_eq_false', al_ne, Bool.not_not, al_nn] at hb2p
    refine WH_guardT rfl rfl hb2.h ?_
    refine WH_p (PS_move_ptr rfl) rfl ?_
    refine WH_guardT rfl rfl hb2.h ?_
    refine WH_p (PS_move_ptr rfl) rfl ?_
    refine WH_guardT rfl rfl hb2.h ?_
    refine WH_p (PS_nilCheck rfl) rfl ?_
    refine WH_guardT rfl rfl hb2.h ?_
    refine WH_p (PS_fieldAddr 24579 Hvad.runUnderlying79 rfl Hvad.sizeOf21 rfl rfl) rfl ?_
    refine WH_guardT rfl rfl hb2.h ?_
    refine WH_load (.int _ _) Hvad.isAgg21 rfl (Hb.h (by repeat (first | assumption | exact Hb.newY _ _ | refine Hb.alloc ?_ | refine Hb.drew ?_ | refine Hb.ext (by assumption) ?_ | exact Hb.setSameL (by first | omega | (simp only [size_alloc, size_setB, size_drew]; omega)) | exact Hb.setSame (by assumption) | refine Hb.set (by first | omega | (simp only [size_alloc, size_setB, size_drew]; omega)) ?_ ))) (Ce.h (by first | assumption | exact ⟨rfl⟩)) ?_
    refine WH_guardT rfl rfl hb2.h ?_
    refine WH_p (PS_sub_i32n rfl rfl (by omega) (by omega)) rfl ?_
    refine WH_guardT rfl rfl hb2.h ?_
    refine WH_call Hvad.call222 (by rfl) (Ret.mono (live_spec C c v B β _ _ (hv.ext (by repeat (first | assumption | exact Ext.refl _ | refine Ext.alloc ?_ _ | refine Ext.drew ?_ | refine Ext.setB ?_ (by first | omega | (simp only [size_alloc, size_setB, size_drew]; omega)) _ | exact Ext.trans (by assumption) (by assumption) | refine Ext.trans ?_ (by assumption))))) ?_)
    rintro _ w1 ⟨rfl, hE1⟩
    refine ⟨fun _ => (by repeat (first | assumption | exact Ext.refl _ | refine Ext.alloc ?_ _ | refine Ext.drew ?_ | refine Ext.setB ?_ (by first | omega | (simp only [size_alloc, size_setB, size_drew]; omega)) _ | exact Ext.trans (by assumption) (by assumption) | refine Ext.trans ?_ (by assumption))), ?_⟩
    refine WH_guardT rfl rfl hb2.h ?_
    refine WH_p (PS_move_bool rfl) rfl ?_
    refine WH_if (t := 19) rfl (fun hb5 => ?_) (fun hb5 => ?_)
    · have hb5p := hb5.h; try simp only [al_ete, al_dfn, Bool.not_eq_true', Bool.not_eq_false', al_ne, Bool.not_not, al_nn] at hb5p
      have hlv := hb5p
      have hlv2 := of_decide_eq_true hlv
      obtain ⟨hmk0, hmk1⟩ := hv.ty.marks (v.nmarks - 1).toNat
      have hmk := hv.rep.marks (v.nmarks - 1).toNat (by omega)
      refine WH_guardT rfl rfl hb5.h ?_
      refine WH_p (PS_move_int rfl) rfl ?_
      refine WH_guardT rfl rfl hb5.h ?_
      refine WH_p (PS_move_ptr rfl) rfl ?_
      refine WH_guardT rfl rfl hb5.h ?_
      refine WH_p (PS_move_ptr rfl) rfl ?_
      refine WH_guardT rfl rfl hb5.h ?_
      refine WH_p (PS_nilCheck rfl) rfl ?_
      refine WH_guardT rfl rfl hb5.h ?_
      refine WH_p (PS_fieldAddr 24579 Hvad.runUnderlying79 rfl Hvad.sizeOf21 rfl rfl) rfl ?_
      refine WH_guardT rfl rfl hb5.h ?_
      refine WH_load (.int _ _) Hvad.isAgg21 rfl (Hb.h (by repeat (first | assumption | exact Hb.newY _ _ | refine Hb.alloc ?_ | refine Hb.drew ?_ | refine Hb.ext (by assumption) ?_ | exact Hb.setSameL (by first | omega | (simp only [size_alloc, size_setB, size_drew]; omega)) | exact Hb.setSame (by assumption) | refine Hb.set (by first | omega | (simp only [size_alloc, size_setB, size_drew]; omega)) ?_ ))) (Ce.h (by first | assumption | exact ⟨rfl⟩)) ?_
      refine WH_guardT rfl rfl hb5.h ?_
      refine WH_p (PS_sub_i32n rfl rfl (by omega) (by omega)) rfl ?_
      refine WH_guardT rfl rfl hb5.h ?_
      refine WH_p (PS_nilCheck rfl) rfl ?_
      refine WH_guardT rfl rfl hb5.h ?_
      refine WH_p (PS_fieldAddr 8195 Hvad.runUnderlying79 rfl Hvad.sizeOf74 rfl rfl) rfl ?_
      refine WH_guardT rfl rfl hb5.h ?_
      refine WH_p (PS_indexA Hvad.runUnderlying74 Hvad.sizeOf21 rfl rfl (by omega) (by omega)) rfl ?_
      refine WH_guardT rfl rfl hb5.h ?_
      refine WH_load (.int _ _) Hvad.isAgg21 rfl (Hb.h (by repeat (first | assumption | exact Hb.newY _ _ | refine Hb.alloc ?_ | refine Hb.drew ?_ | refine Hb.ext (by assumption) ?_ | exact Hb.setSameL (by first | omega | (simp only [size_alloc, size_setB, size_drew]; omega)) | exact Hb.setSame (by assumption) | refine Hb.set (by first | omega | (simp only [size_alloc, size_setB, size_drew]; omega)) ?_ ))) (Ce.h (by first | assumption | exact ⟨rfl⟩)) ?_
      refine WH_guardT rfl rfl hb5.h ?_
      refine WH_p (PS_conv_i64n Hvad.runUnderlying21 Hvad.runUnderlying2 rfl (by omega) (by omega)) rfl ?_
      refine WH_guardT rfl rfl hb5.h ?_
      refine WH_p (PS_leq rfl rfl) rfl ?_
      refine WH_guardT rfl rfl hb2.h ?_
      refine WH_p (PS_pickT rfl hb5.h rfl) rfl ?_
      refine WH_p (PS_pickF rfl hb2.h rfl) rfl ?_
      refine WH_nil ?_
      refine thn_normal ?_
      refine W_if rfl (fun hb7 => ?_) (fun hb7 => ?_)
      · have hb7p := hb7.h; try simp only [al_ete, al_dfn, Bool.not_eq_true', Bool.not_eq_false', al_ne, Bool.not_not, al_nn] at hb7p
        have hcu : ¬ v.canUndo := fun h => h (Or.inr ⟨hlv, by omega⟩)
        refine W_seq ?_
        refine W_region rfl ?_
        refine WO_p (PS_assign_bool rfl) ?_
        refine WO_nil ?_
        refine thn_normal ?_
        refine W_ret ?_
        refine thn_ret ?_
        refine bodyQ_ret1 Hvad.results223 rfl (.bool _) rfl ?_
        first
        | (rw [V.undoOne, if_neg hcu]; exact ⟨rfl, VRet.ext hv (by repeat (first | assumption | exact Ext.refl _ | refine Ext.alloc ?_ _ | refine Ext.drew ?_ | refine Ext.setB ?_ (by first | omega | (simp only [size_alloc, size_setB, size_drew]; omega)) _ | refine Ext.trans ?_ (by assumption)))⟩)
        | (rw [V.undoOne, if_pos hcu, he]; simp only [hun]; rw [hun] at hv2; exact ⟨rfl, _, _, hv2, VStep.pre (by repeat (first | assumption | exact Ext.refl _ | refine Ext.alloc ?_ _ | refine Ext.drew ?_ | refine Ext.setB ?_ (by first | omega | (simp only [size_alloc, size_setB, size_drew]; omega)) _ | refine Ext.trans ?_ (by assumption))) hs2⟩)
        | (rw [V.undoOne, if_pos hcu, he]; simp only [hun]; exact ⟨rfl, _, _, hV, (VStep.pre (by repeat (first | assumption | exact Ext.refl _ | refine Ext.alloc ?_ _ | refine Ext.drew ?_ | refine Ext.setB ?_ (by first | omega | (simp only [size_alloc, size_setB, size_drew]; omega)) _ | refine Ext.trans ?_ (by assumption))) hs2).trans hS⟩)
      · have hb7p := hb7.h; try simp only [al_ete, al_dfn, Bool.not_eq_true', Bool.not_eq_false', al_ne, Bool.not_not, al_nn] at hb7p
        have hcu : v.canUndo := by intro h; rcases h with h | ⟨h1, h2⟩ <;> first | omega | (rw [hlv] at h1; cases h1)
        obtain ⟨e, he⟩ : ∃ e, v.journal[v.journal.length - 1]? = some e := ⟨_, List.getElem?_eq_getElem (by omega)⟩
        obtain ⟨bj, cj, rj, hBj, hcapj, hrj, hrsj, hrowj⟩ := hv.rows.journal.some he
        clear hdj
        have hdj : Ce c 10629 (.slice (some ⟨bj, 0, none⟩) v.journal.length cj) := by have := hv.rep.journal; rw [hBj] at this; exact this
        have hidx : ((v.journal.length : Int) - 1).toNat = v.journal.length - 1 := by omega
        refine W_skip ?_
        refine thn_normal ?_
        refine W_seq ?_
        refine W_seq ?_
        refine W_region rfl ?_
        refine WO_p (PS_move_ptr rfl) ?_
        refine WO_p (PS_move_ptr rfl) ?_
        refine WO_p (PS_nilCheck rfl) ?_
        refine WO_p (PS_fieldAddr 8194 Hvad.runUnderlying79 rfl Hvad.sizeOf73 rfl rfl) ?_
        refine WO_load (.slice _ _ _) Hvad.isAgg73 rfl (Hb.h (by repeat (first | assumption | exact Hb.newY _ _ | refine Hb.alloc ?_ | refine Hb.drew ?_ | refine Hb.ext (by assumption) ?_ | exact Hb.setSameL (by first | omega | (simp only [size_alloc, size_setB, size_drew]; omega)) | exact Hb.setSame (by assumption) | refine Hb.set (by first | omega | (simp only [size_alloc, size_setB, size_drew]; omega)) ?_ ))) (Ce.h (by first | assumption | exact ⟨rfl⟩)) ?_
        refine WO_p (PS_move_int rfl) ?_
        refine WO_p (PS_sub_i64n rfl rfl (by omega) (by omega)) ?_
        refine WO_p (PS_indexS Hvad.runUnderlying73 Hvad.sizeOf173 rfl rfl (by omega) (by omega)) ?_
        rw [hidx]
        refine WO_call Hvad.call268 (by rfl) (Ret.mono (undo_spec C c v B β (v.journal.length - 1) bj cj e _ (hv.ext (by repeat (first | assumption | exact Ext.refl _ | refine Ext.alloc ?_ _ | refine Ext.drew ?_ | refine Ext.setB ?_ (by first | omega | (simp only [size_alloc, size_setB, size_drew]; omega)) _ | exact Ext.trans (by assumption) (by assumption) | refine Ext.trans ?_ (by assumption)))) he hBj) ?_)
        rintro _ w2 ⟨rfl, c2, B2, hv2, hs2⟩
        refine WO_p (PS_not rfl) ?_
        refine WO_nil ?_
        refine thn_normal ?_
        refine W_if rfl (fun hb11 => ?_) (fun hb11 => ?_)
        · have hb11p := hb11.h; try simp only [al_ete, al_dfn, Bool.not_eq_true', Bool.not_eq_false', al_ne, Bool.not_not, al_nn] at hb11p
          have hun : v.undo e = none := by cases hq : v.undo e with | none => rfl | some _ => simp [hq] at *
          refine W_seq ?_
          refine W_region rfl ?_
          refine WO_p (PS_assign_bool rfl) ?_
          refine WO_nil ?_
          refine thn_normal ?_
          refine W_ret ?_
          refine thn_ret ?_
          refine bodyQ_ret1 Hvad.results223 rfl (.bool _) rfl ?_
          first
          | (rw [V.undoOne, if_neg hcu]; exact ⟨rfl, VRet.ext hv (by repeat (first | assumption | exact Ext.refl _ | refine Ext.alloc ?_ _ | refine Ext.drew ?_ | refine Ext.setB ?_ (by first | omega | (simp only [size_alloc, size_setB, size_drew]; omega)) _ | refine Ext.trans ?_ (by assumption)))⟩)
          | (rw [V.undoOne, if_pos hcu, he]; simp only [hun]; rw [hun] at hv2; exact ⟨rfl, _, _, hv2, VStep.pre (by repeat (first | assumption | exact Ext.refl _ | refine Ext.alloc ?_ _ | refine Ext.drew ?_ | refine Ext.setB ?_ (by first | omega | (simp only [size_alloc, size_setB, size_drew]; omega)) _ | refine Ext.trans ?_ (by assumption))) hs2⟩)
          | (rw [V.undoOne, if_pos hcu, he]; simp only [hun]; exact ⟨rfl, _, _, hV, (VStep.pre (by repeat (first | assumption | exact Ext.refl _ | refine Ext.alloc ?_ _ | refine Ext.drew ?_ | refine Ext.setB ?_ (by first | omega | (simp only [size_alloc, size_setB, size_drew]; omega)) _ | refine Ext.trans ?_ (by assumption))) hs2).trans hS⟩)
        · have hb11p := hb11.h; try simp only [al_ete, al_dfn, Bool.not_eq_true', Bool.not_eq_false', al_ne, Bool.not_not, al_nn] at hb11p
          obtain ⟨u, hun⟩ : ∃ u, v.undo e = some u := by cases hq : v.undo e with | none => simp [hq] at * | some u => exact ⟨u, rfl⟩
          rw [hun] at hv2
          replace hv2 : VS w2 C c2 u B2 β := hv2
          obtain ⟨hj1, hj2, hj3⟩ := undo_journal hun
          obtain ⟨e2, he2⟩ : ∃ e, u.journal[v.journal.length - 1]? = some e := ⟨_, by rw [hj1]; exact he⟩
          obtain ⟨bk, ck, rk, hBk, hcapk, hrk, hrsk, hrowk⟩ := hv2.rows.journal.some he2
          have hblk2 := hv2.blk
          rw [hj1] at hcapk
          have hdk : Ce c2 10629 (.slice (some ⟨bk, 0, none⟩) v.journal.length ck) := by have := hv2.rep.journal; rw [hBk, hj1] at this; exact this
          refine W_skip ?_
          refine thn_normal ?_
          refine W_seq ?_
          refine W_region rfl ?_
          refine WO_p (PS_move_ptr rfl) ?_
          refine WO_p (PS_move_ptr rfl) ?_
          refine WO_p (PS_nilCheck rfl) ?_
          refine WO_p (PS_fieldAddr 8194 Hvad.runUnderlying79 rfl Hvad.sizeOf73 rfl rfl) ?_
          refine WO_load (.slice _ _ _) Hvad.isAgg73 rfl (Hb.h (by repeat (first | assumption | exact Hb.newY _ _ | refine Hb.alloc ?_ | refine Hb.drew ?_ | refine Hb.ext (by assumption) ?_ | exact Hb.setSameL (by first | omega | (simp only [size_alloc, size_setB, size_drew]; omega)) | exact Hb.setSame (by assumption) | refine Hb.set (by first | omega | (simp only [size_alloc, size_setB, size_drew]; omega)) ?_ ))) (Ce.h (by first | assumption | exact ⟨rfl⟩)) ?_
          refine WO_p (PS_move_int rfl) ?_
          refine WO_p (PS_sub_i64n rfl rfl (by omega) (by omega)) ?_
          refine WO_p (PS_slS_h Hvad.runUnderlying73 Hvad.sizeOf173 rfl rfl (by omega) (by omega) (by omega)) ?_
          refine WO_p (PS_nilCheck rfl) ?_
          refine WO_p (PS_fieldAddr 8194 Hvad.runUnderlying79 rfl Hvad.sizeOf73 rfl rfl) ?_
          have hrow2 := hv2.rows.journal.take (v.journal.length - 1)
          have hlt2 : (u.journal.take (v.journal.length - 1)).length = v.journal.length - 1 := by rw [List.length_take, hj1]; omega
          have h := VS.row_journal hv2 hrow2 (KeepO.refl _ _) (fun b hb => Or.inl hb) (fun x hx => hv2.ty.journal x (List.mem_of_mem_take hx)) (by rw [hlt2]; omega) (fun x hx => hv2.olds x (List.mem_of_mem_take hx))
          rw [hlt2, show slv B2.j (v.journal.length - 1) = .slice (some ⟨bk, 0, none⟩) (v.journal.length - 1) ck by rw [hBk]; rfl] at h
          refine WO_store1 Hvad.sizeOf73 rfl (v := .slice (some ⟨bk, 0, none⟩) (v.journal.length - 1) ck) (congrArg (fun n => Value.slice (some ⟨bk, 0, none⟩) n ck) (by omega)) hv2.blk.h rfl (by rw [hv2.rep.size]; decide) rfl ?_
          obtain ⟨hV, hS⟩ := h
          refine WO_nil ?_
          refine thn_normal ?_
          refine W_seq ?_
          refine W_region rfl ?_
          refine WO_p (PS_assign_bool rfl) ?_
          refine WO_nil ?_
          refine thn_normal ?_
          refine W_ret ?_
          refine bodyQ_ret1 Hvad.results223 rfl (.bool _) rfl ?_
          first
          | (rw [V.undoOne, if_neg hcu]; exact ⟨rfl, VRet.ext hv (by repeat (first | assumption | exact Ext.refl _ | refine Ext.alloc ?_ _ | refine Ext.drew ?_ | refine Ext.setB ?_ (by first | omega | (simp only [size_alloc, size_setB, size_drew]; omega)) _ | refine Ext.trans ?_ (by assumption)))⟩)
          | (rw [V.undoOne, if_pos hcu, he]; simp only [hun]; rw [hun] at hv2; exact ⟨rfl, _, _, hv2, VStep.pre (by repeat (first | assumption | exact Ext.refl _ | refine Ext.alloc ?_ _ | refine Ext.drew ?_ | refine Ext.setB ?_ (by first | omega | (simp only [size_alloc, size_setB, size_drew]; omega)) _ | refine Ext.trans ?_ (by assumption))) hs2⟩)
          | (rw [V.undoOne, if_pos hcu, he]; simp only [hun]; exact ⟨rfl, _, _, hV, (VStep.pre (by repeat (first | assumption | exact Ext.refl _ | refine Ext.alloc ?_ _ | refine Ext.drew ?_ | refine Ext.setB ?_ (by first | omega | (simp only [size_alloc, size_setB, size_drew]; omega)) _ | refine Ext.trans ?_ (by assumption))) hs2).trans hS⟩)
    · have hb5p := hb5.h; try simp only [al_ete, al_dfn, Bool.not_eq_true', Bool.not_eq_false', al_ne, Bool.not_not, al_nn] at hb5p
      have hlv := hb5p
      have hcu : v.canUndo := by intro h; rcases h with h | ⟨h1, h2⟩ <;> first | omega | (rw [hlv] at h1; cases h1)
      obtain ⟨e, he⟩ : ∃ e, v.journal[v.journal.length - 1]? = some e := ⟨_, List.getElem?_eq_getElem (by omega)⟩
      obtain ⟨bj, cj, rj, hBj, hcapj, hrj, hrsj, hrowj⟩ := hv.rows.journal.some he
      clear hdj
      have hdj : Ce c 10629 (.slice (some ⟨bj, 0, none⟩) v.journal.length cj) := by have := hv.rep.journal; rw [hBj] at this; exact this
      have hidx : ((v.journal.length : Int) - 1).toNat = v.journal.length - 1 := by omega
      refine WH_guardF rfl rfl hb5.h ?_
      refine WH_guardF rfl rfl hb5.h ?_
      refine WH_guardF rfl rfl hb5.h ?_
      refine WH_guardF rfl rfl hb5.h ?_
      refine WH_guardF rfl rfl hb5.h ?_
      refine WH_guardF rfl rfl hb5.h ?_
      refine WH_guardF rfl rfl hb5.h ?_
      refine WH_guardF rfl rfl hb5.h ?_
      refine WH_guardF rfl rfl hb5.h ?_
      refine WH_guardF rfl rfl hb5.h ?_
      refine WH_guardF rfl rfl hb5.h ?_
      refine WH_guardF rfl rfl hb5.h ?_
      refine WH_guardF rfl rfl hb5.h ?_
      refine WH_guardT rfl rfl hb2.h ?_
      refine WH_p (PS_pickF rfl hb5.h rfl) rfl ?_
      refine WH_p (PS_pickF rfl hb2.h rfl) rfl ?_
      refine WH_nil ?_
      refine thn_normal ?_
      refine W_condF rfl rfl ?_
      refine W_skip ?_
      refine thn_normal ?_
      refine W_seq ?_
      refine W_seq ?_
      refine W_region rfl ?_
      refine WO_p (PS_move_ptr rfl) ?_
      refine WO_p (PS_move_ptr rfl) ?_
      refine WO_p (PS_nilCheck rfl) ?_
      refine WO_p (PS_fieldAddr 8194 Hvad.runUnderlying79 rfl Hvad.sizeOf73 rfl rfl) ?_
      refine WO_load (.slice _ _ _) Hvad.isAgg73 rfl (Hb.h (by repeat (first | assumption | exact Hb.newY _ _ | refine Hb.alloc ?_ | refine Hb.drew ?_ | refine Hb.ext (by assumption) ?_ | exact Hb.setSameL (by first | omega | (simp only [size_alloc, size_setB, size_drew]; omega)) | exact Hb.setSame (by assumption) | refine Hb.set (by first | omega | (simp only [size_alloc, size_setB, size_drew]; omega)) ?_ ))) (Ce.h (by first | assumption | exact ⟨rfl⟩)) ?_
      refine WO_p (PS_move_int rfl) ?_
      refine WO_p (PS_sub_i64n rfl rfl (by omega) (by omega)) ?_
      refine WO_p (PS_indexS Hvad.runUnderlying73 Hvad.sizeOf173 rfl rfl (by omega) (by omega)) ?_
      rw [hidx]
      refine WO_call Hvad.call268 (by rfl) (Ret.mono (undo_spec C c v B β (v.journal.length - 1) bj cj e _ (hv.ext (by repeat (first | assumption | exact Ext.refl _ | refine Ext.alloc ?_ _ | refine Ext.drew ?_ | refine Ext.setB ?_ (by first | omega | (simp only [size_alloc, size_setB, size_drew]; omega)) _ | exact Ext.trans (by assumption) (by assumption) | refine Ext.trans ?_ (by assumption)))) he hBj) ?_)
      rintro _ w2 ⟨rfl, c2, B2, hv2, hs2⟩
      refine WO_p (PS_not rfl) ?_
      refine WO_nil ?_
      refine thn_normal ?_
      refine W_if rfl (fun hb15 => ?_) (fun hb15 => ?_)
      · have hb15p := hb15.h; try simp only [al_ete, al_dfn, Bool.not_eq_true', Bool.not_eq_false', al_ne, Bool.not_not, al_nn] at hb15p
        have hun : v.undo e = none := by cases hq : v.undo e with | none => rfl | some _ => simp [hq] at *
        refine W_seq ?_
        refine W_region rfl ?_
        refine WO_p (PS_assign_bool rfl) ?_
        refine WO_nil ?_
        refine thn_normal ?_
        refine W_ret ?_
        refine thn_ret ?_
        refine bodyQ_ret1 Hvad.results223 rfl (.bool _) rfl ?_
        first
        | (rw [V.undoOne, if_neg hcu]; exact ⟨rfl, VRet.ext hv (by repeat (first | assumption | exact Ext.refl _ | refine Ext.alloc ?_ _ | refine Ext.drew ?_ | refine Ext.setB ?_ (by first | omega | (simp only [size_alloc, size_setB, size_drew]; omega)) _ | refine Ext.trans ?_ (by assumption)))⟩)
        | (rw [V.undoOne, if_pos hcu, he]; simp only [hun]; rw [hun] at hv2; exact ⟨rfl, _, _, hv2, VStep.pre (by repeat (first | assumption | exact Ext.refl _ | refine Ext.alloc ?_ _ | refine Ext.drew ?_ | refine Ext.setB ?_ (by first | omega | (simp only [size_alloc, size_setB, size_drew]; omega)) _ | refine Ext.trans ?_ (by assumption))) hs2⟩)
        | (rw [V.undoOne, if_pos hcu, he]; simp only [hun]; exact ⟨rfl, _, _, hV, (VStep.pre (by repeat (first | assumption | exact Ext.refl _ | refine Ext.alloc ?_ _ | refine Ext.drew ?_ | refine Ext.setB ?_ (by first | omega | (simp only [size_alloc, size_setB, size_drew]; omega)) _ | refine Ext.trans ?_ (by assumption))) hs2).trans hS⟩)
      · have hb15p := hb15.h; try simp only [al_ete, al_dfn, Bool.not_eq_true', Bool.not_eq_false', al_ne, Bool.not_not, al_nn] at hb15p
        obtain ⟨u, hun⟩ : ∃ u, v.undo e = some u := by cases hq : v.undo e with | none => simp [hq] at * | some u => exact ⟨u, rfl⟩
        rw [hun] at hv2
        replace hv2 : VS w2 C c2 u B2 β := hv2
        obtain ⟨hj1, hj2, hj3⟩ := undo_journal hun
        obtain ⟨e2, he2⟩ : ∃ e, u.journal[v.journal.length - 1]? = some e := ⟨_, by rw [hj1]; exact he⟩
        obtain ⟨bk, ck, rk, hBk, hcapk, hrk, hrsk, hrowk⟩ := hv2.rows.journal.some he2
        have hblk2 := hv2.blk
        rw [hj1] at hcapk
        have hdk : Ce c2 10629 (.slice (some ⟨bk, 0, none⟩) v.journal.length ck) := by have := hv2.rep.journal; rw [hBk, hj1] at this; exact this
        refine W_skip ?_
        refine thn_normal ?_
        refine W_seq ?_
        refine W_region rfl ?_
        refine WO_p (PS_move_ptr rfl) ?_
        refine WO_p (PS_move_ptr rfl) ?_
        refine WO_p (PS_nilCheck rfl) ?_
        refine WO_p (PS_fieldAddr 8194 Hvad.runUnderlying79 rfl Hvad.sizeOf73 rfl rfl) ?_
        refine WO_load (.slice _ _ _) Hvad.isAgg73 rfl (Hb.h (by repeat (first | assumption | exact Hb.newY _ _ | refine Hb.alloc ?_ | refine Hb.drew ?_ | refine Hb.ext (by assumption) ?_ | exact Hb.setSameL (by first | omega | (simp only [size_alloc, size_setB, size_drew]; omega)) | exact Hb.setSame (by assumption) | refine Hb.set (by first | omega | (simp only [size_alloc, size_setB, size_drew]; omega)) ?_ ))) (Ce.h (by first | assumption | exact ⟨rfl⟩)) ?_
        refine WO_p (PS_move_int rfl) ?_
        refine WO_p (PS_sub_i64n rfl rfl (by omega) (by omega)) ?_
        refine WO_p (PS_slS_h Hvad.runUnderlying73 Hvad.sizeOf173 rfl rfl (by omega) (by omega) (by omega)) ?_
        refine WO_p (PS_nilCheck rfl) ?_
        refine WO_p (PS_fieldAddr 8194 Hvad.runUnderlying79 rfl Hvad.sizeOf73 rfl rfl) ?_
        have hrow2 := hv2.rows.journal.take (v.journal.length - 1)
        have hlt2 : (u.journal.take (v.journal.length - 1)).length = v.journal.length - 1 := by rw [List.length_take, hj1]; omega
        have h := VS.row_journal hv2 hrow2 (KeepO.refl _ _) (fun b hb => Or.inl hb) (fun x hx => hv2.ty.journal x (List.mem_of_mem_take hx)) (by rw [hlt2]; omega) (fun x hx => hv2.olds x (List.mem_of_mem_take hx))
        rw [hlt2, show slv B2.j (v.journal.length - 1) = .slice (some ⟨bk, 0, none⟩) (v.journal.length - 1) ck by rw [hBk]; rfl] at h
        refine WO_store1 Hvad.sizeOf73 rfl (v := .slice (some ⟨bk, 0, none⟩) (v.journal.length - 1) ck) (congrArg (fun n => Value.slice (some ⟨bk, 0, none⟩) n ck) (by omega)) hv2.blk.h rfl (by rw [hv2.rep.size]; decide) rfl ?_
        obtain ⟨hV, hS⟩ := h
        refine WO_nil ?_
        refine thn_normal ?_
        refine W_seq ?_
        refine W_region rfl ?_
        refine WO_p (PS_assign_bool rfl) ?_
        refine WO_nil ?_
        refine thn_normal ?_
        refine W_ret ?_
        refine bodyQ_ret1 Hvad.results223 rfl (.bool _) rfl ?_
        first
        | (rw [V.undoOne, if_neg hcu]; exact ⟨rfl, VRet.ext hv (by repeat (first | assumption | exact Ext.refl _ | refine Ext.alloc ?_ _ | refine Ext.drew ?_ | refine Ext.setB ?_ (by first | omega | (simp only [size_alloc, size_setB, size_drew]; omega)) _ | refine Ext.trans ?_ (by assumption)))⟩)
        | (rw [V.undoOne, if_pos hcu, he]; simp only [hun]; rw [hun] at hv2; exact ⟨rfl, _, _, hv2, VStep.pre (by repeat (first | assumption | exact Ext.refl _ | refine Ext.alloc ?_ _ | refine Ext.drew ?_ | refine Ext.setB ?_ (by first | omega | (simp only [size_alloc, size_setB, size_drew]; omega)) _ | refine Ext.trans ?_ (by assumption))) hs2⟩)
        | (rw [V.undoOne, if_pos hcu, he]; simp only [hun]; exact ⟨rfl, _, _, hV, (VStep.pre (by repeat (first | assumption | exact Ext.refl _ | refine Ext.alloc ?_ _ | refine Ext.drew ?_ | refine Ext.setB ?_ (by first | omega | (simp only [size_alloc, size_setB, size_drew]; omega)) _ | refine Ext.trans ?_ (by assumption))) hs2).trans hS⟩)

set_option maxRecDepth 10000 in
theorem revertTo_spec (C : Nat) (c : Array Value) (v : V) (B : VB) (β : Option Nat) (id : Int) (w : World) (hv : VS w C c v B β) (hnm : 0 ≤ v.nmarks ∧ v.nmarks ≤ 16384) : Ret Hvad.prog 129 #[.pointer (some ⟨C, 2435, none⟩), .int .i32 id] w fun u w' => u = .bool (v.revertTo id).1 ∧ VRet w C c B β w' (v.revertTo id).2 := by
  refine Ret_of_W Hvad.func129 rfl rfl ?_
  refine W_seq ?_
  refine W_region rfl ?_
  refine WO_p (PS_assign_bool rfl) ?_
  refine WO_nil ?_
  refine thn_normal ?_
  refine W_seq ?_
  refine W_seq ?_
  refine W_region rfl ?_
  refine WO_p (PS_move_ptr rfl) ?_
  refine WO_p (PS_move_int rfl) ?_
  refine WO_call Hvad.call222 (by rfl) (Ret.mono (live_spec C c v B β id _ hv) ?_)
  rintro _ w1 ⟨rfl, hE1⟩
  have hv1 := hv.ext hE1
  have hblk := hv1.blk
  refine WO_p (PS_not rfl) ?_
  refine WO_nil ?_
  refine thn_normal ?_
  refine W_if rfl (fun hb4 => ?_) (fun hb4 => ?_)
  · have hb4p := hb4.h; try simp only [al_ete, al_dfn, Bool.not_eq_true', Bool.not_eq_false', al_ne, Bool.not_not, al_nn] at hb4p
    have hlv := hb4p
    refine W_seq ?_
    refine W_region rfl ?_
    refine WO_p (PS_assign_bool rfl) ?_
    refine WO_nil ?_
    refine thn_normal ?_
    refine W_ret ?_
    refine thn_ret ?_
    refine bodyQ_ret1 Hvad.results129 rfl (.bool _) rfl ?_
    first
    | (rw [V.revertTo, if_neg (by rw [hlv]; decide)]; exact ⟨rfl, VRet.ext hv hE1⟩)
    | (rw [V.revertTo, if_pos hlv, ← hpr]; exact ⟨rfl, _, _, hV5, (hs3.trans hs4).trans hS5⟩)
  · have hb4p := hb4.h; try simp only [al_ete, al_dfn, Bool.not_eq_true', Bool.not_eq_false', al_ne, Bool.not_not, al_nn] at hb4p
    have hlv := hb4p
    have hlv2 := of_decide_eq_true hlv
    refine W_skip ?_
    refine thn_normal ?_
    refine W_seq ?_
    refine W_region rfl ?_
    refine WO_p (PS_move_ptr rfl) ?_
    refine WO_p (PS_move_int rfl) ?_
    refine WO_p (PS_add_i32n rfl rfl (by omega) (by omega)) ?_
    refine WO_p (PS_nilCheck rfl) ?_
    refine WO_p (PS_fieldAddr 24579 Hvad.runUnderlying79 rfl Hvad.sizeOf21 rfl rfl) ?_
    refine WO_store1 Hvad.sizeOf21 rfl (v := .int _ _) rfl hv1.blk.h rfl (by rw [hv1.rep.size]; decide) rfl ?_
    obtain ⟨hV2, hS2⟩ := hv1.put_nmarks (id + 1) (by unfold I32; omega)
    refine WO_nil ?_
    refine thn_normal ?_
    refine W_seq ?_
    refine W_block ?_
    refine W_loopN (fun m ρ w' => ∃ (x : V) (c' : Array Value) (B' : VB), x.nmarks = id + 1 ∧ x.journal.length ≤ m ∧ V.undoAll m x = V.undoAll v.journal.length { v with nmarks := id + 1 } ∧ Fr [(0, .pointer (some ⟨C, 2435, none⟩)), (1, .int .i32 id)] ρ ∧ VS w' C c' x B' β ∧ VStep w w' C c c' B B') v.journal.length ?_ ?_
    · exact ⟨{ v with nmarks := id + 1 }, _, _, rfl, Nat.le_refl _, rfl, ⟨rfl, rfl, trivial⟩, hV2, VStep.pre hE1 hS2⟩
    clear hV2 hS2
    intro m ρ w3 hI
    obtain ⟨x, c3, B3, hnm3, hlm, hpr, hF, hv3, hs3⟩ := hI
    refine W_env _ hF ?_
    refine W_seq ?_
    refine W_seq ?_
    refine W_region rfl ?_
    refine WO_p (PS_move_ptr rfl) ?_
    refine WO_call Hvad.call223 (by rfl) (Ret.mono (undoOne_spec C _ _ _ _ _ hv3 (by rw [hnm3]; omega)) ?_)
    rintro _ w4 ⟨rfl, c4, B4, hv4, hs4⟩
    refine WO_nil ?_
    refine thn_normal ?_
    refine W_if rfl (fun hb6 => ?_) (fun hb6 => ?_)
    · have hb6p := hb6.h; try simp only [al_ete, al_dfn, Bool.not_eq_true', Bool.not_eq_false', al_ne, Bool.not_not, al_nn] at hb6p
      obtain ⟨y, hun⟩ : ∃ y, x.undoOne = some y := by cases hq : x.undoOne with | none => rw [hq] at hb6p; cases hb6p | some y => exact ⟨y, rfl⟩
      refine W_skip ?_
      refine thn_normal ?_
      refine W_block ?_
      refine W_skip ?_
      refine inBlk_normal ?_
      refine thn_normal ?_
      obtain ⟨hj, hn2, _, hpos⟩ := undoOne_journal hun
      obtain ⟨m', rfl⟩ : ∃ m', m = m' + 1 := ⟨m - 1, by omega⟩
      have e4 : x.undoOne.getD x = y := by rw [hun]; rfl
      rw [e4] at hv4
      refine ⟨m', by omega, y, _, _, by rw [hn2]; exact hnm3, by rw [hj, List.length_take]; omega, ?_, ⟨rfl, rfl, trivial⟩, hv4, hs3.trans hs4⟩
      rw [← hpr]
      conv => rhs; unfold V.undoAll
      rw [hun]
    · have hb6p := hb6.h; try simp only [al_ete, al_dfn, Bool.not_eq_true', Bool.not_eq_false', al_ne, Bool.not_not, al_nn] at hb6p
      have hun : x.undoOne = none := by cases hq : x.undoOne with | none => rfl | some y => rw [hq] at hb6p; cases hb6p
      have e4 : x.undoOne.getD x = x := by rw [hun]; rfl
      rw [e4] at hv4
      have hfin : V.undoAll m x = x := by cases m with | zero => rfl | succ m => unfold V.undoAll; rw [hun]
      rw [hfin] at hpr
      refine W_exit ?_
      refine thn_exit ?_
      refine thn_exit ?_
      refine inBlk_exit ?_
      refine thn_normal ?_
      refine W_seq ?_
      refine W_region rfl ?_
      refine WO_p (PS_move_ptr rfl) ?_
      refine WO_p (PS_move_int rfl) ?_
      refine WO_p (PS_nilCheck rfl) ?_
      refine WO_p (PS_fieldAddr 24579 Hvad.runUnderlying79 rfl Hvad.sizeOf21 rfl rfl) ?_
      refine WO_store1 Hvad.sizeOf21 rfl (v := .int _ _) rfl hv4.blk.h rfl (by rw [hv4.rep.size]; decide) rfl ?_
      obtain ⟨hV5, hS5⟩ := hv4.put_nmarks id (by unfold I32; omega)
      refine WO_nil ?_
      refine thn_normal ?_
      refine W_seq ?_
      refine W_region rfl ?_
      refine WO_p (PS_assign_bool rfl) ?_
      refine WO_nil ?_
      refine thn_normal ?_
      refine W_ret ?_
      refine bodyQ_ret1 Hvad.results129 rfl (.bool _) rfl ?_
      first
      | (rw [V.revertTo, if_neg (by rw [hlv]; decide)]; exact ⟨rfl, VRet.ext hv hE1⟩)
      | (rw [V.revertTo, if_pos hlv, ← hpr]; exact ⟨rfl, _, _, hV5, (hs3.trans hs4).trans hS5⟩)

end Go.Proofs.YgvadwGreat
