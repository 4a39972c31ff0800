import Derived.Test.YgvadwGreatVg
namespace Go.Proofs.YgvadwGreat
set_option linter.unusedSimpArgs false
set_option linter.unusedVariables false
abbrev Entry.isA (e : Entry) : Prop := e.kind = 0 ∨ e.kind = 1 ∨ e.kind = 2 ∨ e.kind = 4 ∨ e.kind = 9 ∨ e.kind = 10
abbrev Entry.isS (e : Entry) : Prop := e.kind = 3 ∨ e.kind = 5
def undoA (e : Entry) (x : Acct) : Acct := if e.kind = 0 then { x with bal := e.w } else if e.kind = 1 then { x with nonce := e.n } else if e.kind = 2 then { x with code := e.b } else if e.kind = 4 then { x with warm := e.flag } else if e.kind = 9 then { x with made := e.flag } else { x with gone := e.flag }
def undoS (e : Entry) (x : Slot) : Slot := if e.kind = 3 then { x with val := e.w } else { x with warm := e.flag }
def V.undo (v : V) (e : Entry) : Option V :=
  if e.isA then (if e.at_ < 0 then none else (v.accts[e.at_.toNat]?).map fun x => { v with accts := v.accts.set e.at_.toNat (undoA e x) })
  else if e.isS then (if e.at_ < 0 then none else (v.slots[e.at_.toNat]?).map fun x => { v with slots := v.slots.set e.at_.toNat (undoS e x) })
  else if e.kind = 8 then (if e.at_ < 0 then none else (v.temps[e.at_.toNat]?).map fun x => { v with temps := v.temps.set e.at_.toNat { x with val := e.w } })
  else if e.kind = 6 then some { v with ref := e.n }
  else if e.kind = 7 then (if v.logs.length = 0 then none else some { v with logs := v.logs.take (v.logs.length - 1) })
  else none
theorem undo_0 {v : V} {e : Entry} {x : Acct} (hk : e.kind = 0) (h0 : 0 ≤ e.at_) (hx : v.accts[e.at_.toNat]? = some x) : v.undo e = some { v with accts := v.accts.set e.at_.toNat { x with bal := e.w } } := by
  simp [V.undo, Entry.isA, undoA, hk, hx, show ¬ e.at_ < 0 by omega]
theorem undo_1 {v : V} {e : Entry} {x : Acct} (hk : e.kind = 1) (h0 : 0 ≤ e.at_) (hx : v.accts[e.at_.toNat]? = some x) : v.undo e = some { v with accts := v.accts.set e.at_.toNat { x with nonce := e.n } } := by
  simp [V.undo, Entry.isA, undoA, hk, hx, show ¬ e.at_ < 0 by omega]
theorem undo_2 {v : V} {e : Entry} {x : Acct} (hk : e.kind = 2) (h0 : 0 ≤ e.at_) (hx : v.accts[e.at_.toNat]? = some x) : v.undo e = some { v with accts := v.accts.set e.at_.toNat { x with code := e.b } } := by
  simp [V.undo, Entry.isA, undoA, hk, hx, show ¬ e.at_ < 0 by omega]
theorem undo_4 {v : V} {e : Entry} {x : Acct} (hk : e.kind = 4) (h0 : 0 ≤ e.at_) (hx : v.accts[e.at_.toNat]? = some x) : v.undo e = some { v with accts := v.accts.set e.at_.toNat { x with warm := e.flag } } := by
  simp [V.undo, Entry.isA, undoA, hk, hx, show ¬ e.at_ < 0 by omega]
theorem undo_9 {v : V} {e : Entry} {x : Acct} (hk : e.kind = 9) (h0 : 0 ≤ e.at_) (hx : v.accts[e.at_.toNat]? = some x) : v.undo e = some { v with accts := v.accts.set e.at_.toNat { x with made := e.flag } } := by
  simp [V.undo, Entry.isA, undoA, hk, hx, show ¬ e.at_ < 0 by omega]
theorem undo_10 {v : V} {e : Entry} {x : Acct} (hk : e.kind = 10) (h0 : 0 ≤ e.at_) (hx : v.accts[e.at_.toNat]? = some x) : v.undo e = some { v with accts := v.accts.set e.at_.toNat { x with gone := e.flag } } := by
  simp [V.undo, Entry.isA, undoA, hk, hx, show ¬ e.at_ < 0 by omega]
theorem undo_3 {v : V} {e : Entry} {x : Slot} (hk : e.kind = 3) (h0 : 0 ≤ e.at_) (hx : v.slots[e.at_.toNat]? = some x) : v.undo e = some { v with slots := v.slots.set e.at_.toNat { x with val := e.w } } := by
  simp [V.undo, Entry.isA, Entry.isS, undoS, hk, hx, show ¬ e.at_ < 0 by omega]
theorem undo_5 {v : V} {e : Entry} {x : Slot} (hk : e.kind = 5) (h0 : 0 ≤ e.at_) (hx : v.slots[e.at_.toNat]? = some x) : v.undo e = some { v with slots := v.slots.set e.at_.toNat { x with warm := e.flag } } := by
  simp [V.undo, Entry.isA, Entry.isS, undoS, hk, hx, show ¬ e.at_ < 0 by omega]
theorem undo_8 {v : V} {e : Entry} {x : Temp} (hk : e.kind = 8) (h0 : 0 ≤ e.at_) (hx : v.temps[e.at_.toNat]? = some x) : v.undo e = some { v with temps := v.temps.set e.at_.toNat { x with val := e.w } } := by
  simp [V.undo, Entry.isA, Entry.isS, hk, hx, show ¬ e.at_ < 0 by omega]
theorem undo_6 {v : V} {e : Entry} (hk : e.kind = 6) : v.undo e = some { v with ref := e.n } := by simp [V.undo, Entry.isA, Entry.isS, hk]
theorem undo_7 {v : V} {e : Entry} (hk : e.kind = 7) (hl : v.logs.length ≠ 0) : v.undo e = some { v with logs := v.logs.take (v.logs.length - 1) } := by simp [V.undo, Entry.isA, Entry.isS, hk, hl]
theorem undo_7n {v : V} {e : Entry} (hk : e.kind = 7) (hl : v.logs.length = 0) : v.undo e = none := by simp [V.undo, Entry.isA, Entry.isS, hk, hl]
theorem undo_An {v : V} {e : Entry} (hk : e.isA) (h : e.at_ < 0 ∨ (v.accts.length : Int) ≤ e.at_) : v.undo e = none := by
  rw [V.undo, if_pos hk]; split; rfl; rw [List.getElem?_eq_none (by omega)]; rfl
theorem undo_Sn {v : V} {e : Entry} (hk : e.isS) (h : e.at_ < 0 ∨ (v.slots.length : Int) ≤ e.at_) : v.undo e = none := by
  rw [V.undo, if_neg (by unfold Entry.isS at hk; omega), if_pos hk]; split; rfl; rw [List.getElem?_eq_none (by omega)]; rfl
theorem undo_8n {v : V} {e : Entry} (hk : e.kind = 8) (h : e.at_ < 0 ∨ (v.temps.length : Int) ≤ e.at_) : v.undo e = none := by
  rw [V.undo, if_neg (by omega), if_neg (by omega), if_pos hk]; split; rfl; rw [List.getElem?_eq_none (by omega)]; rfl
theorem undo_n {v : V} {e : Entry} (h : ¬ e.isA) (h2 : ¬ e.isS) (h3 : e.kind ≠ 8) (h4 : e.kind ≠ 6) (h5 : e.kind ≠ 7) : v.undo e = none := by
  rw [V.undo, if_neg h, if_neg h2, if_neg h3, if_neg h4, if_neg h5]
theorem RowL.take {α : Type} {enc : α → List Value} {sz o : Nat} {r : Array Value} {l : List α} (h : RowL enc sz o r l) (n : Nat) : RowL enc sz o r (l.take n) := by
  refine ⟨Nat.le_trans (Nat.add_le_add_left (Nat.mul_le_mul_left _ (by rw [List.length_take]; omega)) _) h.1, ?_⟩
  intro i x hx k hk
  rw [List.getElem?_take] at hx
  split at hx
  · exact h.2 i x hx k hk
  · cases hx
theorem Row.take {α : Type} {enc : α → List Value} {sz : Nat} {T : TypeId} {w : World} {s : Option (Nat × Nat)} {l : List α} (h : Row enc sz T w s l) (n : Nat) : Row enc sz T w s (l.take n) := by
  unfold Row at h ⊢
  split at h
  · rw [h]; simp
  · obtain ⟨h1, r, h2, h3, h4⟩ := h
    exact ⟨by rw [List.length_take]; omega, r, h2, h3, h4.take n⟩

set_option maxRecDepth 10000 in
theorem undo_spec (C : Nat) (c : Array Value) (v : V) (B : VB) (β : Option Nat) (i bj cj : Nat) (e : Entry) (w : World) (hv : VS w C c v B β) (he : v.journal[i]? = some e) (hBj : B.j = some (bj, cj)) : Ret Hvad.prog 268 #[.pointer (some ⟨C, 2435, none⟩), .pointer (some ⟨bj, 0 + i * 9, none⟩)] w fun u w' => u = .bool (v.undo e).isSome ∧ VRet w C c B β w' ((v.undo e).getD v) := by
  obtain ⟨b', c', rj, hab', hcapj, hrj, hrsj, hrowj, hdj, hbdj, hilj, htj, j0, j1, j2, j3, j4, j5⟩ := hv.openJ he
  rw [hBj] at hab'
  injection hab' with hab'
  injection hab' with hb1 hb2
  subst hb1; subst hb2
  have hblk := hv.blk
  have hwl : e.w.length = 4 := htj.2.2.2.1
  have hat := htj.2.1
  have hla := hv.ty.la
  have hls := hv.ty.ls
  have hlt := hv.ty.lt
  have hll := hv.ty.ll
  have hda : Ce c 2435 (.slice (slp B.a) v.accts.length (slc B.a)) := hv.rep.accts
  have hds : Ce c 2436 (.slice (slp B.s) v.slots.length (slc B.s)) := hv.rep.slots
  have hdt : Ce c 27017 (.slice (slp B.t) v.temps.length (slc B.t)) := hv.rep.temps
  have hdl : Ce c 27016 (.slice (slp B.l) v.logs.length (slc B.l)) := hv.rep.logs
  refine Ret_of_W Hvad.func268 rfl rfl ?_
  refine W_seq ?_
  refine W_region rfl ?_
  refine WO_p (PS_assign_bool rfl) ?_
  refine WO_nil ?_
  refine thn_normal ?_
  refine W_seq ?_
  refine W_seq ?_
  refine W_region rfl ?_
  refine WO_p (PS_move_ptr rfl) ?_
  refine WO_p (PS_nilCheck rfl) ?_
  refine WO_p (PS_fieldAddr 0 Hvad.runUnderlying173 rfl Hvad.sizeOf5 rfl rfl) ?_
  refine WO_load (.int _ _) Hvad.isAgg5 rfl (Hb.h (by repeat (first | assumption | exact Hb.newY _ _ | refine Hb.alloc ?_ | refine Hb.drew ?_ | refine Hb.ext (by assumption) ?_ | exact Hb.setSameL (by first | omega | (simp only [size_alloc, size_setB, size_drew]; omega)) | exact Hb.setSame (by assumption) | refine Hb.set (by first | omega | (simp only [size_alloc, size_setB, size_drew]; omega)) ?_ ))) (Ce.h (by first | assumption | exact ⟨rfl⟩)) ?_
  refine WO_nil ?_
  refine thn_normal ?_
  refine W_block ?_
  refine W_seq ?_
  refine W_seq ?_
  refine W_region rfl ?_
  refine WO_p (PS_eql rfl rfl) ?_
  refine WO_p (PS_assign_bool rfl) ?_
  refine WO_nil ?_
  refine thn_normal ?_
  refine W_if rfl (fun hb2 => ?_) (fun hb2 => ?_)
  · have hb2p := hb2.h; simp only [al_ete, al_dfn, Bool.not_eq_true', Bool.not_eq_false', al_ne, Bool.not_not, al_nn] at hb2p
    refine W_skip ?_
    refine thn_normal ?_
    refine W_condT rfl hb2.h ?_
    refine W_seq ?_
    refine W_seq ?_
    refine W_drawE [false, false, false, false, false, false, false, false, false, false, false, false, false, false, false, false, false, false] hmix (by kernel_rfl) rfl ?_
    refine WH_p (PS_move_ptr rfl) rfl ?_
    refine WH_p (PS_nilCheck rfl) rfl ?_
    refine WH_p (PS_fieldAddr 1 Hvad.runUnderlying173 rfl Hvad.sizeOf21 rfl rfl) rfl ?_
    refine WH_load (.int _ _) Hvad.isAgg21 rfl (Hb.h (by repeat (first | assumption | exact Hb.newY _ _ | refine Hb.alloc ?_ | refine Hb.drew ?_ | refine Hb.ext (by assumption) ?_ | exact Hb.setSameL (by first | omega | (simp only [size_alloc, size_setB, size_drew]; omega)) | exact Hb.setSame (by assumption) | refine Hb.set (by first | omega | (simp only [size_alloc, size_setB, size_drew]; omega)) ?_ ))) (Ce.h (by first | assumption | exact ⟨rfl⟩)) ?_
    refine WH_p (PS_lss rfl rfl) rfl ?_
    refine WH_p (PS_move_bool rfl) rfl ?_
    refine WH_if (t := 22) rfl (fun hb4 => ?_) (fun hb4 => ?_)
    · have hb4p := hb4.h; simp only [al_ete, al_dfn, Bool.not_eq_true', Bool.not_eq_false', al_ne, Bool.not_not, al_nn] at hb4p
      refine WH_guardF rfl rfl hb4.h ?_
      refine WH_guardF rfl rfl hb4.h ?_
      refine WH_guardF rfl rfl hb4.h ?_
      refine WH_guardF rfl rfl hb4.h ?_
      refine WH_guardF rfl rfl hb4.h ?_
      refine WH_guardF rfl rfl hb4.h ?_
      refine WH_guardF rfl rfl hb4.h ?_
      refine WH_guardF rfl rfl hb4.h ?_
      refine WH_guardF rfl rfl hb4.h ?_
      refine WH_guardF rfl rfl hb4.h ?_
      refine WH_guardF rfl rfl hb4.h ?_
      refine WH_p (PS_pickT rfl hb4.h rfl) rfl ?_
      refine WH_nil ?_
      refine thn_normal ?_
      refine W_condT rfl rfl ?_
      refine W_seq ?_
      refine W_region rfl ?_
      refine WO_p (PS_assign_bool rfl) ?_
      refine WO_nil ?_
      refine thn_normal ?_
      refine W_ret ?_
      refine thn_ret ?_
      refine inBlk_ret ?_
      refine thn_ret ?_
      refine bodyQ_ret1 Hvad.results268 rfl (.bool _) rfl ?_
      first
      | (rw [undo_0 (by omega) h0 hx]; exact ⟨rfl, _, _, hV, hS⟩)
      | (rw [undo_1 (by omega) h0 hx]; exact ⟨rfl, _, _, hV, hS⟩)
      | (rw [undo_2 (by omega) h0 hx]; exact ⟨rfl, _, _, hV, hS⟩)
      | (rw [undo_4 (by omega) h0 hx]; exact ⟨rfl, _, _, hV, hS⟩)
      | (rw [undo_9 (by omega) h0 hx]; exact ⟨rfl, _, _, hV, hS⟩)
      | (rw [undo_10 (by omega) h0 hx]; exact ⟨rfl, _, _, hV, hS⟩)
      | (rw [undo_3 (by omega) h0 hx]; exact ⟨rfl, _, _, hV, hS⟩)
      | (rw [undo_5 (by omega) h0 hx]; exact ⟨rfl, _, _, hV, hS⟩)
      | (rw [undo_8 (by omega) h0 hx]; exact ⟨rfl, _, _, hV, hS⟩)
      | (rw [undo_6 (by omega)]; exact ⟨rfl, _, _, hV, hS⟩)
      | (rw [undo_7 (by omega) (by omega)]; exact ⟨rfl, _, _, hV, hS⟩)
      | (rw [undo_7n (by omega) (by omega)]; exact ⟨rfl, VRet.ext hv (by repeat (first | assumption | exact Ext.refl _ | refine Ext.alloc ?_ _ | refine Ext.drew ?_ | refine Ext.setB ?_ (by first | omega | (simp only [size_alloc, size_setB, size_drew]; omega)) _ | refine Ext.trans ?_ (by assumption)))⟩)
      | (rw [undo_An (by unfold Entry.isA; omega) (by omega)]; exact ⟨rfl, VRet.ext hv (by repeat (first | assumption | exact Ext.refl _ | refine Ext.alloc ?_ _ | refine Ext.drew ?_ | refine Ext.setB ?_ (by first | omega | (simp only [size_alloc, size_setB, size_drew]; omega)) _ | refine Ext.trans ?_ (by assumption)))⟩)
      | (rw [undo_Sn (by unfold Entry.isS; omega) (by omega)]; exact ⟨rfl, VRet.ext hv (by repeat (first | assumption | exact Ext.refl _ | refine Ext.alloc ?_ _ | refine Ext.drew ?_ | refine Ext.setB ?_ (by first | omega | (simp only [size_alloc, size_setB, size_drew]; omega)) _ | refine Ext.trans ?_ (by assumption)))⟩)
      | (rw [undo_8n (by omega) (by omega)]; exact ⟨rfl, VRet.ext hv (by repeat (first | assumption | exact Ext.refl _ | refine Ext.alloc ?_ _ | refine Ext.drew ?_ | refine Ext.setB ?_ (by first | omega | (simp only [size_alloc, size_setB, size_drew]; omega)) _ | refine Ext.trans ?_ (by assumption)))⟩)
      | (rw [undo_n (by unfold Entry.isA; omega) (by unfold Entry.isS; omega) (by omega) (by omega) (by omega)]; exact ⟨rfl, VRet.ext hv (by repeat (first | assumption | exact Ext.refl _ | refine Ext.alloc ?_ _ | refine Ext.drew ?_ | refine Ext.setB ?_ (by first | omega | (simp only [size_alloc, size_setB, size_drew]; omega)) _ | refine Ext.trans ?_ (by assumption)))⟩)
      | (exfalso; omega)
    · have hb4p := hb4.h; simp only [al_ete, al_dfn, Bool.not_eq_true', Bool.not_eq_false', al_ne, Bool.not_not, al_nn] at hb4p
      refine WH_guardT rfl rfl hb4.h ?_
      refine WH_p (PS_move_ptr rfl) rfl ?_
      refine WH_guardT rfl rfl hb4.h ?_
      refine WH_p (PS_nilCheck rfl) rfl ?_
      refine WH_guardT rfl rfl hb4.h ?_
      refine WH_p (PS_fieldAddr 1 Hvad.runUnderlying173 rfl Hvad.sizeOf21 rfl rfl) rfl ?_
      refine WH_guardT rfl rfl hb4.h ?_
      refine WH_load (.int _ _) Hvad.isAgg21 rfl (Hb.h (by repeat (first | assumption | exact Hb.newY _ _ | refine Hb.alloc ?_ | refine Hb.drew ?_ | refine Hb.ext (by assumption) ?_ | exact Hb.setSameL (by first | omega | (simp only [size_alloc, size_setB, size_drew]; omega)) | exact Hb.setSame (by assumption) | refine Hb.set (by first | omega | (simp only [size_alloc, size_setB, size_drew]; omega)) ?_ ))) (Ce.h (by first | assumption | exact ⟨rfl⟩)) ?_
      refine WH_guardT rfl rfl hb4.h ?_
      refine WH_p (PS_conv_i64n Hvad.runUnderlying21 Hvad.runUnderlying3 rfl (by omega) (by omega)) rfl ?_
      refine WH_guardT rfl rfl hb4.h ?_
      refine WH_p (PS_move_ptr rfl) rfl ?_
      refine WH_guardT rfl rfl hb4.h ?_
      refine WH_p (PS_nilCheck rfl) rfl ?_
      refine WH_guardT rfl rfl hb4.h ?_
      refine WH_p (PS_fieldAddr 0 Hvad.runUnderlying79 rfl Hvad.sizeOf70 rfl rfl) rfl ?_
      refine WH_guardT rfl rfl hb4.h ?_
      refine WH_load (.slice _ _ _) Hvad.isAgg70 rfl (Hb.h (by repeat (first | assumption | exact Hb.newY _ _ | refine Hb.alloc ?_ | refine Hb.drew ?_ | refine Hb.ext (by assumption) ?_ | exact Hb.setSameL (by first | omega | (simp only [size_alloc, size_setB, size_drew]; omega)) | exact Hb.setSame (by assumption) | refine Hb.set (by first | omega | (simp only [size_alloc, size_setB, size_drew]; omega)) ?_ ))) (Ce.h (by first | assumption | exact ⟨rfl⟩)) ?_
      refine WH_guardT rfl rfl hb4.h ?_
      refine WH_p (PS_lenS Hvad.runUnderlying70 rfl) rfl ?_
      refine WH_guardT rfl rfl hb4.h ?_
      refine WH_p (PS_geq rfl rfl) rfl ?_
      refine WH_p (PS_pickF rfl hb4.h rfl) rfl ?_
      refine WH_nil ?_
      refine thn_normal ?_
      refine W_if rfl (fun hb6 => ?_) (fun hb6 => ?_)
      · have hb6p := hb6.h; simp only [al_ete, al_dfn, Bool.not_eq_true', Bool.not_eq_false', al_ne, Bool.not_not, al_nn] at hb6p
        refine W_seq ?_
        refine W_region rfl ?_
        refine WO_p (PS_assign_bool rfl) ?_
        refine WO_nil ?_
        refine thn_normal ?_
        refine W_ret ?_
        refine thn_ret ?_
        refine inBlk_ret ?_
        refine thn_ret ?_
        refine bodyQ_ret1 Hvad.results268 rfl (.bool _) rfl ?_
        first
        | (rw [undo_0 (by omega) h0 hx]; exact ⟨rfl, _, _, hV, hS⟩)
        | (rw [undo_1 (by omega) h0 hx]; exact ⟨rfl, _, _, hV, hS⟩)
        | (rw [undo_2 (by omega) h0 hx]; exact ⟨rfl, _, _, hV, hS⟩)
        | (rw [undo_4 (by omega) h0 hx]; exact ⟨rfl, _, _, hV, hS⟩)
        | (rw [undo_9 (by omega) h0 hx]; exact ⟨rfl, _, _, hV, hS⟩)
        | (rw [undo_10 (by omega) h0 hx]; exact ⟨rfl, _, _, hV, hS⟩)
        | (rw [undo_3 (by omega) h0 hx]; exact ⟨rfl, _, _, hV, hS⟩)
        | (rw [undo_5 (by omega) h0 hx]; exact ⟨rfl, _, _, hV, hS⟩)
        | (rw [undo_8 (by omega) h0 hx]; exact ⟨rfl, _, _, hV, hS⟩)
        | (rw [undo_6 (by omega)]; exact ⟨rfl, _, _, hV, hS⟩)
        | (rw [undo_7 (by omega) (by omega)]; exact ⟨rfl, _, _, hV, hS⟩)
        | (rw [undo_7n (by omega) (by omega)]; exact ⟨rfl, VRet.ext hv (by repeat (first | assumption | exact Ext.refl _ | refine Ext.alloc ?_ _ | refine Ext.drew ?_ | refine Ext.setB ?_ (by first | omega | (simp only [size_alloc, size_setB, size_drew]; omega)) _ | refine Ext.trans ?_ (by assumption)))⟩)
        | (rw [undo_An (by unfold Entry.isA; omega) (by omega)]; exact ⟨rfl, VRet.ext hv (by repeat (first | assumption | exact Ext.refl _ | refine Ext.alloc ?_ _ | refine Ext.drew ?_ | refine Ext.setB ?_ (by first | omega | (simp only [size_alloc, size_setB, size_drew]; omega)) _ | refine Ext.trans ?_ (by assumption)))⟩)
        | (rw [undo_Sn (by unfold Entry.isS; omega) (by omega)]; exact ⟨rfl, VRet.ext hv (by repeat (first | assumption | exact Ext.refl _ | refine Ext.alloc ?_ _ | refine Ext.drew ?_ | refine Ext.setB ?_ (by first | omega | (simp only [size_alloc, size_setB, size_drew]; omega)) _ | refine Ext.trans ?_ (by assumption)))⟩)
        | (rw [undo_8n (by omega) (by omega)]; exact ⟨rfl, VRet.ext hv (by repeat (first | assumption | exact Ext.refl _ | refine Ext.alloc ?_ _ | refine Ext.drew ?_ | refine Ext.setB ?_ (by first | omega | (simp only [size_alloc, size_setB, size_drew]; omega)) _ | refine Ext.trans ?_ (by assumption)))⟩)
        | (rw [undo_n (by unfold Entry.isA; omega) (by unfold Entry.isS; omega) (by omega) (by omega) (by omega)]; exact ⟨rfl, VRet.ext hv (by repeat (first | assumption | exact Ext.refl _ | refine Ext.alloc ?_ _ | refine Ext.drew ?_ | refine Ext.setB ?_ (by first | omega | (simp only [size_alloc, size_setB, size_drew]; omega)) _ | refine Ext.trans ?_ (by assumption)))⟩)
        | (exfalso; omega)
      · have hb6p := hb6.h; simp only [al_ete, al_dfn, Bool.not_eq_true', Bool.not_eq_false', al_ne, Bool.not_not, al_nn] at hb6p
        have h0 : 0 ≤ e.at_ := by omega
        obtain ⟨x, hx⟩ : ∃ x, v.accts[e.at_.toNat]? = some x := ⟨_, List.getElem?_eq_getElem (by omega)⟩
        clear hda
        obtain ⟨b, cap, r, hab, hcap, hr, hrs, hrow, hda, hbd, hil, hty, f0, f1, f2, f3, f4, f5, f6⟩ := hv.openA hx
        refine W_skip ?_
        refine thn_normal ?_
        refine W_seq ?_
        refine W_drawE [false, false, false, false, false, false, false, false, false, false] hmix (by kernel_rfl) rfl ?_
        refine WH_p (PS_move_ptr rfl) rfl ?_
        refine WH_p (PS_nilCheck rfl) rfl ?_
        refine WH_p (PS_fieldAddr 0 Hvad.runUnderlying79 rfl Hvad.sizeOf70 rfl rfl) rfl ?_
        refine WH_load (.slice _ _ _) Hvad.isAgg70 rfl (Hb.h (by repeat (first | assumption | exact Hb.newY _ _ | refine Hb.alloc ?_ | refine Hb.drew ?_ | refine Hb.ext (by assumption) ?_ | exact Hb.setSameL (by first | omega | (simp only [size_alloc, size_setB, size_drew]; omega)) | exact Hb.setSame (by assumption) | refine Hb.set (by first | omega | (simp only [size_alloc, size_setB, size_drew]; omega)) ?_ ))) (Ce.h (by first | assumption | exact ⟨rfl⟩)) ?_
        refine WH_p (PS_move_ptr rfl) rfl ?_
        refine WH_p (PS_nilCheck rfl) rfl ?_
        refine WH_p (PS_fieldAddr 1 Hvad.runUnderlying173 rfl Hvad.sizeOf21 rfl rfl) rfl ?_
        refine WH_load (.int _ _) Hvad.isAgg21 rfl (Hb.h (by repeat (first | assumption | exact Hb.newY _ _ | refine Hb.alloc ?_ | refine Hb.drew ?_ | refine Hb.ext (by assumption) ?_ | exact Hb.setSameL (by first | omega | (simp only [size_alloc, size_setB, size_drew]; omega)) | exact Hb.setSame (by assumption) | refine Hb.set (by first | omega | (simp only [size_alloc, size_setB, size_drew]; omega)) ?_ ))) (Ce.h (by first | assumption | exact ⟨rfl⟩)) ?_
        refine WH_p (PS_indexS Hvad.runUnderlying70 Hvad.sizeOf149 rfl rfl (by omega) (by omega)) rfl ?_
        refine WH_p (PS_assign_ptr rfl) rfl ?_
        refine WH_nil ?_
        refine thn_normal ?_
        refine W_seq ?_
        refine W_region rfl ?_
        refine WO_p (PS_move_ptr rfl) ?_
        refine WO_p (PS_nilCheck rfl) ?_
        refine WO_p (PS_fieldAddr 0 Hvad.runUnderlying173 rfl Hvad.sizeOf5 rfl rfl) ?_
        refine WO_load (.int _ _) Hvad.isAgg5 rfl (Hb.h (by repeat (first | assumption | exact Hb.newY _ _ | refine Hb.alloc ?_ | refine Hb.drew ?_ | refine Hb.ext (by assumption) ?_ | exact Hb.setSameL (by first | omega | (simp only [size_alloc, size_setB, size_drew]; omega)) | exact Hb.setSame (by assumption) | refine Hb.set (by first | omega | (simp only [size_alloc, size_setB, size_drew]; omega)) ?_ ))) (Ce.h (by first | assumption | exact ⟨rfl⟩)) ?_
        refine WO_nil ?_
        refine thn_normal ?_
        refine W_block ?_
        refine W_seq ?_
        refine W_region rfl ?_
        refine WO_p (PS_eql rfl rfl) ?_
        refine WO_p (PS_assign_bool rfl) ?_
        refine WO_nil ?_
        refine thn_normal ?_
        refine W_if rfl (fun hb8 => ?_) (fun hb8 => ?_)
        · have hb8p := hb8.h; simp only [al_ete, al_dfn, Bool.not_eq_true', Bool.not_eq_false', al_ne, Bool.not_not, al_nn] at hb8p
          refine W_region rfl ?_
          refine WO_p (PS_move_ptr rfl) ?_
          refine WO_p (PS_move_ptr rfl) ?_
          refine WO_p (PS_nilCheck rfl) ?_
          refine WO_p (PS_fieldAddr 3 Hvad.runUnderlying173 rfl Hvad.sizeOf59 rfl rfl) ?_
          refine WO_loadA _ Hvad.isAgg59 Hvad.sizeOf59 rfl (Hb.h (by repeat (first | assumption | exact Hb.newY _ _ | refine Hb.alloc ?_ | refine Hb.drew ?_ | refine Hb.ext (by assumption) ?_ | exact Hb.setSameL (by first | omega | (simp only [size_alloc, size_setB, size_drew]; omega)) | exact Hb.setSame (by assumption) | refine Hb.set (by first | omega | (simp only [size_alloc, size_setB, size_drew]; omega)) ?_ ))) (by first | omega | assumption | rfl | decide | (simp only [size_ic, Value.cells]; omega) | simp) (Xt.h (by first | assumption | exact Xt.whole rfl rfl | exact Xt.whole rfl (by simp only [size_ic, Value.cells]; omega) | exact ⟨rfl⟩)) ?_
          refine WO_p (PS_nilCheck rfl) ?_
          refine WO_p (PS_fieldAddr 21 Hvad.runUnderlying149 rfl Hvad.sizeOf59 rfl rfl) ?_
          have hv2 := hv.ext (Ext.drew (Ext.drew (Ext.refl _)))
          have hr2 := hr.drew.drew
          refine WO_store Hvad.sizeOf59 rfl (v := .agg (ic .u64 e.w)) rfl hr2.h (by first | omega | assumption | rfl | decide | (simp only [size_ic, Value.cells]; omega) | simp) (by omega) (by first | exact oneCell_ic | assumption) ?_
          obtain ⟨hV, hS⟩ := hv2.wA_bal hx hab hcap hr2 hrs hrow e.w htj.2.2.2
          replace hS := VStep.pre (Ext.drew (Ext.drew (Ext.refl _))) hS
          refine WO_nil ?_
          refine inBlk_normal ?_
          refine inBlk_normal ?_
          refine thn_normal ?_
          refine W_seq ?_
          refine W_region rfl ?_
          refine WO_p (PS_assign_bool rfl) ?_
          refine WO_nil ?_
          refine thn_normal ?_
          refine W_ret ?_
          refine bodyQ_ret1 Hvad.results268 rfl (.bool _) rfl ?_
          first
          | (rw [undo_0 (by omega) h0 hx]; exact ⟨rfl, _, _, hV, hS⟩)
          | (rw [undo_1 (by omega) h0 hx]; exact ⟨rfl, _, _, hV, hS⟩)
          | (rw [undo_2 (by omega) h0 hx]; exact ⟨rfl, _, _, hV, hS⟩)
          | (rw [undo_4 (by omega) h0 hx]; exact ⟨rfl, _, _, hV, hS⟩)
          | (rw [undo_9 (by omega) h0 hx]; exact ⟨rfl, _, _, hV, hS⟩)
          | (rw [undo_10 (by omega) h0 hx]; exact ⟨rfl, _, _, hV, hS⟩)
          | (rw [undo_3 (by omega) h0 hx]; exact ⟨rfl, _, _, hV, hS⟩)
          | (rw [undo_5 (by omega) h0 hx]; exact ⟨rfl, _, _, hV, hS⟩)
          | (rw [undo_8 (by omega) h0 hx]; exact ⟨rfl, _, _, hV, hS⟩)
          | (rw [undo_6 (by omega)]; exact ⟨rfl, _, _, hV, hS⟩)
          | (rw [undo_7 (by omega) (by omega)]; exact ⟨rfl, _, _, hV, hS⟩)
          | (rw [undo_7n (by omega) (by omega)]; exact ⟨rfl, VRet.ext hv (by repeat (first | assumption | exact Ext.refl _ | refine Ext.alloc ?_ _ | refine Ext.drew ?_ | refine Ext.setB ?_ (by first | omega | (simp only [size_alloc, size_setB, size_drew]; omega)) _ | refine Ext.trans ?_ (by assumption)))⟩)
          | (rw [undo_An (by unfold Entry.isA; omega) (by omega)]; exact ⟨rfl, VRet.ext hv (by repeat (first | assumption | exact Ext.refl _ | refine Ext.alloc ?_ _ | refine Ext.drew ?_ | refine Ext.setB ?_ (by first | omega | (simp only [size_alloc, size_setB, size_drew]; omega)) _ | refine Ext.trans ?_ (by assumption)))⟩)
          | (rw [undo_Sn (by unfold Entry.isS; omega) (by omega)]; exact ⟨rfl, VRet.ext hv (by repeat (first | assumption | exact Ext.refl _ | refine Ext.alloc ?_ _ | refine Ext.drew ?_ | refine Ext.setB ?_ (by first | omega | (simp only [size_alloc, size_setB, size_drew]; omega)) _ | refine Ext.trans ?_ (by assumption)))⟩)
          | (rw [undo_8n (by omega) (by omega)]; exact ⟨rfl, VRet.ext hv (by repeat (first | assumption | exact Ext.refl _ | refine Ext.alloc ?_ _ | refine Ext.drew ?_ | refine Ext.setB ?_ (by first | omega | (simp only [size_alloc, size_setB, size_drew]; omega)) _ | refine Ext.trans ?_ (by assumption)))⟩)
          | (rw [undo_n (by unfold Entry.isA; omega) (by unfold Entry.isS; omega) (by omega) (by omega) (by omega)]; exact ⟨rfl, VRet.ext hv (by repeat (first | assumption | exact Ext.refl _ | refine Ext.alloc ?_ _ | refine Ext.drew ?_ | refine Ext.setB ?_ (by first | omega | (simp only [size_alloc, size_setB, size_drew]; omega)) _ | refine Ext.trans ?_ (by assumption)))⟩)
          | (exfalso; omega)
        · have hb8p := hb8.h; simp only [al_ete, al_dfn, Bool.not_eq_true', Bool.not_eq_false', al_ne, Bool.not_not, al_nn] at hb8p
          refine W_seq ?_
          refine W_region rfl ?_
          refine WO_p (PS_eql rfl rfl) ?_
          refine WO_p (PS_assign_bool rfl) ?_
          refine WO_nil ?_
          refine thn_normal ?_
          refine W_if rfl (fun hb10 => ?_) (fun hb10 => ?_)
          · have hb10p := hb10.h; simp only [al_ete, al_dfn, Bool.not_eq_true', Bool.not_eq_false', al_ne, Bool.not_not, al_nn] at hb10p
            refine W_region rfl ?_
            refine WO_p (PS_move_ptr rfl) ?_
            refine WO_p (PS_move_ptr rfl) ?_
            refine WO_p (PS_nilCheck rfl) ?_
            refine WO_p (PS_fieldAddr 2 Hvad.runUnderlying173 rfl Hvad.sizeOf26 rfl rfl) ?_
            refine WO_load (.int _ _) Hvad.isAgg26 rfl (Hb.h (by repeat (first | assumption | exact Hb.newY _ _ | refine Hb.alloc ?_ | refine Hb.drew ?_ | refine Hb.ext (by assumption) ?_ | exact Hb.setSameL (by first | omega | (simp only [size_alloc, size_setB, size_drew]; omega)) | exact Hb.setSame (by assumption) | refine Hb.set (by first | omega | (simp only [size_alloc, size_setB, size_drew]; omega)) ?_ ))) (Ce.h (by first | assumption | exact ⟨rfl⟩)) ?_
            refine WO_p (PS_nilCheck rfl) ?_
            refine WO_p (PS_fieldAddr 20 Hvad.runUnderlying149 rfl Hvad.sizeOf26 rfl rfl) ?_
            have hv2 := hv.ext (Ext.drew (Ext.drew (Ext.refl _)))
            have hr2 := hr.drew.drew
            refine WO_store1 Hvad.sizeOf26 rfl (v := .int _ _) rfl hr2.h rfl (by omega) rfl ?_
            obtain ⟨hV, hS⟩ := hv2.wA_nonce hx hab hcap hr2 hrs hrow e.n htj.2.2.1
            replace hS := VStep.pre (Ext.drew (Ext.drew (Ext.refl _))) hS
            refine WO_nil ?_
            refine inBlk_normal ?_
            refine inBlk_normal ?_
            refine thn_normal ?_
            refine W_seq ?_
            refine W_region rfl ?_
            refine WO_p (PS_assign_bool rfl) ?_
            refine WO_nil ?_
            refine thn_normal ?_
            refine W_ret ?_
            refine bodyQ_ret1 Hvad.results268 rfl (.bool _) rfl ?_
            first
            | (rw [undo_0 (by omega) h0 hx]; exact ⟨rfl, _, _, hV, hS⟩)
            | (rw [undo_1 (by omega) h0 hx]; exact ⟨rfl, _, _, hV, hS⟩)
            | (rw [undo_2 (by omega) h0 hx]; exact ⟨rfl, _, _, hV, hS⟩)
            | (rw [undo_4 (by omega) h0 hx]; exact ⟨rfl, _, _, hV, hS⟩)
            | (rw [undo_9 (by omega) h0 hx]; exact ⟨rfl, _, _, hV, hS⟩)
            | (rw [undo_10 (by omega) h0 hx]; exact ⟨rfl, _, _, hV, hS⟩)
            | (rw [undo_3 (by omega) h0 hx]; exact ⟨rfl, _, _, hV, hS⟩)
            | (rw [undo_5 (by omega) h0 hx]; exact ⟨rfl, _, _, hV, hS⟩)
            | (rw [undo_8 (by omega) h0 hx]; exact ⟨rfl, _, _, hV, hS⟩)
            | (rw [undo_6 (by omega)]; exact ⟨rfl, _, _, hV, hS⟩)
            | (rw [undo_7 (by omega) (by omega)]; exact ⟨rfl, _, _, hV, hS⟩)
            | (rw [undo_7n (by omega) (by omega)]; exact ⟨rfl, VRet.ext hv (by repeat (first | assumption | exact Ext.refl _ | refine Ext.alloc ?_ _ | refine Ext.drew ?_ | refine Ext.setB ?_ (by first | omega | (simp only [size_alloc, size_setB, size_drew]; omega)) _ | refine Ext.trans ?_ (by assumption)))⟩)
            | (rw [undo_An (by unfold Entry.isA; omega) (by omega)]; exact ⟨rfl, VRet.ext hv (by repeat (first | assumption | exact Ext.refl _ | refine Ext.alloc ?_ _ | refine Ext.drew ?_ | refine Ext.setB ?_ (by first | omega | (simp only [size_alloc, size_setB, size_drew]; omega)) _ | refine Ext.trans ?_ (by assumption)))⟩)
            | (rw [undo_Sn (by unfold Entry.isS; omega) (by omega)]; exact ⟨rfl, VRet.ext hv (by repeat (first | assumption | exact Ext.refl _ | refine Ext.alloc ?_ _ | refine Ext.drew ?_ | refine Ext.setB ?_ (by first | omega | (simp only [size_alloc, size_setB, size_drew]; omega)) _ | refine Ext.trans ?_ (by assumption)))⟩)
            | (rw [undo_8n (by omega) (by omega)]; exact ⟨rfl, VRet.ext hv (by repeat (first | assumption | exact Ext.refl _ | refine Ext.alloc ?_ _ | refine Ext.drew ?_ | refine Ext.setB ?_ (by first | omega | (simp only [size_alloc, size_setB, size_drew]; omega)) _ | refine Ext.trans ?_ (by assumption)))⟩)
            | (rw [undo_n (by unfold Entry.isA; omega) (by unfold Entry.isS; omega) (by omega) (by omega) (by omega)]; exact ⟨rfl, VRet.ext hv (by repeat (first | assumption | exact Ext.refl _ | refine Ext.alloc ?_ _ | refine Ext.drew ?_ | refine Ext.setB ?_ (by first | omega | (simp only [size_alloc, size_setB, size_drew]; omega)) _ | refine Ext.trans ?_ (by assumption)))⟩)
            | (exfalso; omega)
          · have hb10p := hb10.h; simp only [al_ete, al_dfn, Bool.not_eq_true', Bool.not_eq_false', al_ne, Bool.not_not, al_nn] at hb10p
            refine W_seq ?_
            refine W_region rfl ?_
            refine WO_p (PS_eql rfl rfl) ?_
            refine WO_p (PS_assign_bool rfl) ?_
            refine WO_nil ?_
            refine thn_normal ?_
            refine W_if rfl (fun hb12 => ?_) (fun hb12 => ?_)
            · have hb12p := hb12.h; simp only [al_ete, al_dfn, Bool.not_eq_true', Bool.not_eq_false', al_ne, Bool.not_not, al_nn] at hb12p
              refine W_region rfl ?_
              refine WO_p (PS_move_ptr rfl) ?_
              refine WO_p (PS_move_ptr rfl) ?_
              refine WO_p (PS_nilCheck rfl) ?_
              refine WO_p (PS_fieldAddr 7 Hvad.runUnderlying173 rfl Hvad.sizeOf32 rfl rfl) ?_
              refine WO_load (.slice _ _ _) Hvad.isAgg32 rfl (Hb.h (by repeat (first | assumption | exact Hb.newY _ _ | refine Hb.alloc ?_ | refine Hb.drew ?_ | refine Hb.ext (by assumption) ?_ | exact Hb.setSameL (by first | omega | (simp only [size_alloc, size_setB, size_drew]; omega)) | exact Hb.setSame (by assumption) | refine Hb.set (by first | omega | (simp only [size_alloc, size_setB, size_drew]; omega)) ?_ ))) (Ce.h (by first | assumption | exact ⟨rfl⟩)) ?_
              refine WO_p (PS_nilCheck rfl) ?_
              refine WO_p (PS_fieldAddr 25 Hvad.runUnderlying149 rfl Hvad.sizeOf32 rfl rfl) ?_
              have hv2 := hv.ext (Ext.drew (Ext.drew (Ext.refl _)))
              have hr2 := hr.drew.drew
              have hbe := hv2.olds e (List.mem_of_getElem? he)
              refine WO_store1 Hvad.sizeOf32 rfl (v := .slice _ _ _) rfl hr2.h rfl (by omega) rfl ?_
              obtain ⟨hV, hS⟩ := hv2.wA_code hx hab hcap hr2 hrs hrow e.b hbe
              replace hS := VStep.pre (Ext.drew (Ext.drew (Ext.refl _))) hS
              refine WO_nil ?_
              refine inBlk_normal ?_
              refine inBlk_normal ?_
              refine thn_normal ?_
              refine W_seq ?_
              refine W_region rfl ?_
              refine WO_p (PS_assign_bool rfl) ?_
              refine WO_nil ?_
              refine thn_normal ?_
              refine W_ret ?_
              refine bodyQ_ret1 Hvad.results268 rfl (.bool _) rfl ?_
              first
              | (rw [undo_0 (by omega) h0 hx]; exact ⟨rfl, _, _, hV, hS⟩)
              | (rw [undo_1 (by omega) h0 hx]; exact ⟨rfl, _, _, hV, hS⟩)
              | (rw [undo_2 (by omega) h0 hx]; exact ⟨rfl, _, _, hV, hS⟩)
              | (rw [undo_4 (by omega) h0 hx]; exact ⟨rfl, _, _, hV, hS⟩)
              | (rw [undo_9 (by omega) h0 hx]; exact ⟨rfl, _, _, hV, hS⟩)
              | (rw [undo_10 (by omega) h0 hx]; exact ⟨rfl, _, _, hV, hS⟩)
              | (rw [undo_3 (by omega) h0 hx]; exact ⟨rfl, _, _, hV, hS⟩)
              | (rw [undo_5 (by omega) h0 hx]; exact ⟨rfl, _, _, hV, hS⟩)
              | (rw [undo_8 (by omega) h0 hx]; exact ⟨rfl, _, _, hV, hS⟩)
              | (rw [undo_6 (by omega)]; exact ⟨rfl, _, _, hV, hS⟩)
              | (rw [undo_7 (by omega) (by omega)]; exact ⟨rfl, _, _, hV, hS⟩)
              | (rw [undo_7n (by omega) (by omega)]; exact ⟨rfl, VRet.ext hv (by repeat (first | assumption | exact Ext.refl _ | refine Ext.alloc ?_ _ | refine Ext.drew ?_ | refine Ext.setB ?_ (by first | omega | (simp only [size_alloc, size_setB, size_drew]; omega)) _ | refine Ext.trans ?_ (by assumption)))⟩)
              | (rw [undo_An (by unfold Entry.isA; omega) (by omega)]; exact ⟨rfl, VRet.ext hv (by repeat (first | assumption | exact Ext.refl _ | refine Ext.alloc ?_ _ | refine Ext.drew ?_ | refine Ext.setB ?_ (by first | omega | (simp only [size_alloc, size_setB, size_drew]; omega)) _ | refine Ext.trans ?_ (by assumption)))⟩)
              | (rw [undo_Sn (by unfold Entry.isS; omega) (by omega)]; exact ⟨rfl, VRet.ext hv (by repeat (first | assumption | exact Ext.refl _ | refine Ext.alloc ?_ _ | refine Ext.drew ?_ | refine Ext.setB ?_ (by first | omega | (simp only [size_alloc, size_setB, size_drew]; omega)) _ | refine Ext.trans ?_ (by assumption)))⟩)
              | (rw [undo_8n (by omega) (by omega)]; exact ⟨rfl, VRet.ext hv (by repeat (first | assumption | exact Ext.refl _ | refine Ext.alloc ?_ _ | refine Ext.drew ?_ | refine Ext.setB ?_ (by first | omega | (simp only [size_alloc, size_setB, size_drew]; omega)) _ | refine Ext.trans ?_ (by assumption)))⟩)
              | (rw [undo_n (by unfold Entry.isA; omega) (by unfold Entry.isS; omega) (by omega) (by omega) (by omega)]; exact ⟨rfl, VRet.ext hv (by repeat (first | assumption | exact Ext.refl _ | refine Ext.alloc ?_ _ | refine Ext.drew ?_ | refine Ext.setB ?_ (by first | omega | (simp only [size_alloc, size_setB, size_drew]; omega)) _ | refine Ext.trans ?_ (by assumption)))⟩)
              | (exfalso; omega)
            · have hb12p := hb12.h; simp only [al_ete, al_dfn, Bool.not_eq_true', Bool.not_eq_false', al_ne, Bool.not_not, al_nn] at hb12p
              refine W_seq ?_
              refine W_region rfl ?_
              refine WO_p (PS_eql rfl rfl) ?_
              refine WO_p (PS_assign_bool rfl) ?_
              refine WO_nil ?_
              refine thn_normal ?_
              refine W_if rfl (fun hb14 => ?_) (fun hb14 => ?_)
              · have hb14p := hb14.h; simp only [al_ete, al_dfn, Bool.not_eq_true', Bool.not_eq_false', al_ne, Bool.not_not, al_nn] at hb14p
                refine W_region rfl ?_
                refine WO_p (PS_move_ptr rfl) ?_
                refine WO_p (PS_move_ptr rfl) ?_
                refine WO_p (PS_nilCheck rfl) ?_
                refine WO_p (PS_fieldAddr 8 Hvad.runUnderlying173 rfl Hvad.sizeOf4 rfl rfl) ?_
                refine WO_load (.bool _) Hvad.isAgg4 rfl (Hb.h (by repeat (first | assumption | exact Hb.newY _ _ | refine Hb.alloc ?_ | refine Hb.drew ?_ | refine Hb.ext (by assumption) ?_ | exact Hb.setSameL (by first | omega | (simp only [size_alloc, size_setB, size_drew]; omega)) | exact Hb.setSame (by assumption) | refine Hb.set (by first | omega | (simp only [size_alloc, size_setB, size_drew]; omega)) ?_ ))) (Ce.h (by first | assumption | exact ⟨rfl⟩)) ?_
                refine WO_p (PS_nilCheck rfl) ?_
                refine WO_p (PS_fieldAddr 26 Hvad.runUnderlying149 rfl Hvad.sizeOf4 rfl rfl) ?_
                have hv2 := hv.ext (Ext.drew (Ext.drew (Ext.refl _)))
                have hr2 := hr.drew.drew
                refine WO_store1 Hvad.sizeOf4 rfl (v := .bool _) rfl hr2.h rfl (by omega) rfl ?_
                obtain ⟨hV, hS⟩ := hv2.wA_warm hx hab hcap hr2 hrs hrow e.flag trivial
                replace hS := VStep.pre (Ext.drew (Ext.drew (Ext.refl _))) hS
                refine WO_nil ?_
                refine inBlk_normal ?_
                refine inBlk_normal ?_
                refine thn_normal ?_
                refine W_seq ?_
                refine W_region rfl ?_
                refine WO_p (PS_assign_bool rfl) ?_
                refine WO_nil ?_
                refine thn_normal ?_
                refine W_ret ?_
                refine bodyQ_ret1 Hvad.results268 rfl (.bool _) rfl ?_
                first
                | (rw [undo_0 (by omega) h0 hx]; exact ⟨rfl, _, _, hV, hS⟩)
                | (rw [undo_1 (by omega) h0 hx]; exact ⟨rfl, _, _, hV, hS⟩)
                | (rw [undo_2 (by omega) h0 hx]; exact ⟨rfl, _, _, hV, hS⟩)
                | (rw [undo_4 (by omega) h0 hx]; exact ⟨rfl, _, _, hV, hS⟩)
                | (rw [undo_9 (by omega) h0 hx]; exact ⟨rfl, _, _, hV, hS⟩)
                | (rw [undo_10 (by omega) h0 hx]; exact ⟨rfl, _, _, hV, hS⟩)
                | (rw [undo_3 (by omega) h0 hx]; exact ⟨rfl, _, _, hV, hS⟩)
                | (rw [undo_5 (by omega) h0 hx]; exact ⟨rfl, _, _, hV, hS⟩)
                | (rw [undo_8 (by omega) h0 hx]; exact ⟨rfl, _, _, hV, hS⟩)
                | (rw [undo_6 (by omega)]; exact ⟨rfl, _, _, hV, hS⟩)
                | (rw [undo_7 (by omega) (by omega)]; exact ⟨rfl, _, _, hV, hS⟩)
                | (rw [undo_7n (by omega) (by omega)]; exact ⟨rfl, VRet.ext hv (by repeat (first | assumption | exact Ext.refl _ | refine Ext.alloc ?_ _ | refine Ext.drew ?_ | refine Ext.setB ?_ (by first | omega | (simp only [size_alloc, size_setB, size_drew]; omega)) _ | refine Ext.trans ?_ (by assumption)))⟩)
                | (rw [undo_An (by unfold Entry.isA; omega) (by omega)]; exact ⟨rfl, VRet.ext hv (by repeat (first | assumption | exact Ext.refl _ | refine Ext.alloc ?_ _ | refine Ext.drew ?_ | refine Ext.setB ?_ (by first | omega | (simp only [size_alloc, size_setB, size_drew]; omega)) _ | refine Ext.trans ?_ (by assumption)))⟩)
                | (rw [undo_Sn (by unfold Entry.isS; omega) (by omega)]; exact ⟨rfl, VRet.ext hv (by repeat (first | assumption | exact Ext.refl _ | refine Ext.alloc ?_ _ | refine Ext.drew ?_ | refine Ext.setB ?_ (by first | omega | (simp only [size_alloc, size_setB, size_drew]; omega)) _ | refine Ext.trans ?_ (by assumption)))⟩)
                | (rw [undo_8n (by omega) (by omega)]; exact ⟨rfl, VRet.ext hv (by repeat (first | assumption | exact Ext.refl _ | refine Ext.alloc ?_ _ | refine Ext.drew ?_ | refine Ext.setB ?_ (by first | omega | (simp only [size_alloc, size_setB, size_drew]; omega)) _ | refine Ext.trans ?_ (by assumption)))⟩)
                | (rw [undo_n (by unfold Entry.isA; omega) (by unfold Entry.isS; omega) (by omega) (by omega) (by omega)]; exact ⟨rfl, VRet.ext hv (by repeat (first | assumption | exact Ext.refl _ | refine Ext.alloc ?_ _ | refine Ext.drew ?_ | refine Ext.setB ?_ (by first | omega | (simp only [size_alloc, size_setB, size_drew]; omega)) _ | refine Ext.trans ?_ (by assumption)))⟩)
                | (exfalso; omega)
              · have hb14p := hb14.h; simp only [al_ete, al_dfn, Bool.not_eq_true', Bool.not_eq_false', al_ne, Bool.not_not, al_nn] at hb14p
                refine W_seq ?_
                refine W_region rfl ?_
                refine WO_p (PS_eql rfl rfl) ?_
                refine WO_p (PS_assign_bool rfl) ?_
                refine WO_nil ?_
                refine thn_normal ?_
                refine W_if rfl (fun hb17 => ?_) (fun hb17 => ?_)
                · have hb17p := hb17.h; simp only [al_ete, al_dfn, Bool.not_eq_true', Bool.not_eq_false', al_ne, Bool.not_not, al_nn] at hb17p
                  refine W_region rfl ?_
                  refine WO_p (PS_move_ptr rfl) ?_
                  refine WO_p (PS_move_ptr rfl) ?_
                  refine WO_p (PS_nilCheck rfl) ?_
                  refine WO_p (PS_fieldAddr 8 Hvad.runUnderlying173 rfl Hvad.sizeOf4 rfl rfl) ?_
                  refine WO_load (.bool _) Hvad.isAgg4 rfl (Hb.h (by repeat (first | assumption | exact Hb.newY _ _ | refine Hb.alloc ?_ | refine Hb.drew ?_ | refine Hb.ext (by assumption) ?_ | exact Hb.setSameL (by first | omega | (simp only [size_alloc, size_setB, size_drew]; omega)) | exact Hb.setSame (by assumption) | refine Hb.set (by first | omega | (simp only [size_alloc, size_setB, size_drew]; omega)) ?_ ))) (Ce.h (by first | assumption | exact ⟨rfl⟩)) ?_
                  refine WO_p (PS_nilCheck rfl) ?_
                  refine WO_p (PS_fieldAddr 27 Hvad.runUnderlying149 rfl Hvad.sizeOf4 rfl rfl) ?_
                  have hv2 := hv.ext (Ext.drew (Ext.drew (Ext.refl _)))
                  have hr2 := hr.drew.drew
                  refine WO_store1 Hvad.sizeOf4 rfl (v := .bool _) rfl hr2.h rfl (by omega) rfl ?_
                  obtain ⟨hV, hS⟩ := hv2.wA_made hx hab hcap hr2 hrs hrow e.flag trivial
                  replace hS := VStep.pre (Ext.drew (Ext.drew (Ext.refl _))) hS
                  refine WO_nil ?_
                  refine inBlk_normal ?_
                  refine inBlk_normal ?_
                  refine thn_normal ?_
                  refine W_seq ?_
                  refine W_region rfl ?_
                  refine WO_p (PS_assign_bool rfl) ?_
                  refine WO_nil ?_
                  refine thn_normal ?_
                  refine W_ret ?_
                  refine bodyQ_ret1 Hvad.results268 rfl (.bool _) rfl ?_
                  first
                  | (rw [undo_0 (by omega) h0 hx]; exact ⟨rfl, _, _, hV, hS⟩)
                  | (rw [undo_1 (by omega) h0 hx]; exact ⟨rfl, _, _, hV, hS⟩)
                  | (rw [undo_2 (by omega) h0 hx]; exact ⟨rfl, _, _, hV, hS⟩)
                  | (rw [undo_4 (by omega) h0 hx]; exact ⟨rfl, _, _, hV, hS⟩)
                  | (rw [undo_9 (by omega) h0 hx]; exact ⟨rfl, _, _, hV, hS⟩)
                  | (rw [undo_10 (by omega) h0 hx]; exact ⟨rfl, _, _, hV, hS⟩)
                  | (rw [undo_3 (by omega) h0 hx]; exact ⟨rfl, _, _, hV, hS⟩)
                  | (rw [undo_5 (by omega) h0 hx]; exact ⟨rfl, _, _, hV, hS⟩)
                  | (rw [undo_8 (by omega) h0 hx]; exact ⟨rfl, _, _, hV, hS⟩)
                  | (rw [undo_6 (by omega)]; exact ⟨rfl, _, _, hV, hS⟩)
                  | (rw [undo_7 (by omega) (by omega)]; exact ⟨rfl, _, _, hV, hS⟩)
                  | (rw [undo_7n (by omega) (by omega)]; exact ⟨rfl, VRet.ext hv (by repeat (first | assumption | exact Ext.refl _ | refine Ext.alloc ?_ _ | refine Ext.drew ?_ | refine Ext.setB ?_ (by first | omega | (simp only [size_alloc, size_setB, size_drew]; omega)) _ | refine Ext.trans ?_ (by assumption)))⟩)
                  | (rw [undo_An (by unfold Entry.isA; omega) (by omega)]; exact ⟨rfl, VRet.ext hv (by repeat (first | assumption | exact Ext.refl _ | refine Ext.alloc ?_ _ | refine Ext.drew ?_ | refine Ext.setB ?_ (by first | omega | (simp only [size_alloc, size_setB, size_drew]; omega)) _ | refine Ext.trans ?_ (by assumption)))⟩)
                  | (rw [undo_Sn (by unfold Entry.isS; omega) (by omega)]; exact ⟨rfl, VRet.ext hv (by repeat (first | assumption | exact Ext.refl _ | refine Ext.alloc ?_ _ | refine Ext.drew ?_ | refine Ext.setB ?_ (by first | omega | (simp only [size_alloc, size_setB, size_drew]; omega)) _ | refine Ext.trans ?_ (by assumption)))⟩)
                  | (rw [undo_8n (by omega) (by omega)]; exact ⟨rfl, VRet.ext hv (by repeat (first | assumption | exact Ext.refl _ | refine Ext.alloc ?_ _ | refine Ext.drew ?_ | refine Ext.setB ?_ (by first | omega | (simp only [size_alloc, size_setB, size_drew]; omega)) _ | refine Ext.trans ?_ (by assumption)))⟩)
                  | (rw [undo_n (by unfold Entry.isA; omega) (by unfold Entry.isS; omega) (by omega) (by omega) (by omega)]; exact ⟨rfl, VRet.ext hv (by repeat (first | assumption | exact Ext.refl _ | refine Ext.alloc ?_ _ | refine Ext.drew ?_ | refine Ext.setB ?_ (by first | omega | (simp only [size_alloc, size_setB, size_drew]; omega)) _ | refine Ext.trans ?_ (by assumption)))⟩)
                  | (exfalso; omega)
                · have hb17p := hb17.h; simp only [al_ete, al_dfn, Bool.not_eq_true', Bool.not_eq_false', al_ne, Bool.not_not, al_nn] at hb17p
                  refine W_seq ?_
                  refine W_region rfl ?_
                  refine WO_p (PS_eql rfl rfl) ?_
                  refine WO_p (PS_assign_bool rfl) ?_
                  refine WO_nil ?_
                  refine thn_normal ?_
                  refine W_if rfl (fun hb20 => ?_) (fun hb20 => ?_)
                  · have hb20p := hb20.h; simp only [al_ete, al_dfn, Bool.not_eq_true', Bool.not_eq_false', al_ne, Bool.not_not, al_nn] at hb20p
                    refine W_region rfl ?_
                    refine WO_p (PS_move_ptr rfl) ?_
                    refine WO_p (PS_move_ptr rfl) ?_
                    refine WO_p (PS_nilCheck rfl) ?_
                    refine WO_p (PS_fieldAddr 8 Hvad.runUnderlying173 rfl Hvad.sizeOf4 rfl rfl) ?_
                    refine WO_load (.bool _) Hvad.isAgg4 rfl (Hb.h (by repeat (first | assumption | exact Hb.newY _ _ | refine Hb.alloc ?_ | refine Hb.drew ?_ | refine Hb.ext (by assumption) ?_ | exact Hb.setSameL (by first | omega | (simp only [size_alloc, size_setB, size_drew]; omega)) | exact Hb.setSame (by assumption) | refine Hb.set (by first | omega | (simp only [size_alloc, size_setB, size_drew]; omega)) ?_ ))) (Ce.h (by first | assumption | exact ⟨rfl⟩)) ?_
                    refine WO_p (PS_nilCheck rfl) ?_
                    refine WO_p (PS_fieldAddr 28 Hvad.runUnderlying149 rfl Hvad.sizeOf4 rfl rfl) ?_
                    have hv2 := hv.ext (Ext.drew (Ext.drew (Ext.refl _)))
                    have hr2 := hr.drew.drew
                    refine WO_store1 Hvad.sizeOf4 rfl (v := .bool _) rfl hr2.h rfl (by omega) rfl ?_
                    obtain ⟨hV, hS⟩ := hv2.wA_gone hx hab hcap hr2 hrs hrow e.flag trivial
                    replace hS := VStep.pre (Ext.drew (Ext.drew (Ext.refl _))) hS
                    refine WO_nil ?_
                    refine inBlk_normal ?_
                    refine inBlk_normal ?_
                    refine thn_normal ?_
                    refine W_seq ?_
                    refine W_region rfl ?_
                    refine WO_p (PS_assign_bool rfl) ?_
                    refine WO_nil ?_
                    refine thn_normal ?_
                    refine W_ret ?_
                    refine bodyQ_ret1 Hvad.results268 rfl (.bool _) rfl ?_
                    first
                    | (rw [undo_0 (by omega) h0 hx]; exact ⟨rfl, _, _, hV, hS⟩)
                    | (rw [undo_1 (by omega) h0 hx]; exact ⟨rfl, _, _, hV, hS⟩)
                    | (rw [undo_2 (by omega) h0 hx]; exact ⟨rfl, _, _, hV, hS⟩)
                    | (rw [undo_4 (by omega) h0 hx]; exact ⟨rfl, _, _, hV, hS⟩)
                    | (rw [undo_9 (by omega) h0 hx]; exact ⟨rfl, _, _, hV, hS⟩)
                    | (rw [undo_10 (by omega) h0 hx]; exact ⟨rfl, _, _, hV, hS⟩)
                    | (rw [undo_3 (by omega) h0 hx]; exact ⟨rfl, _, _, hV, hS⟩)
                    | (rw [undo_5 (by omega) h0 hx]; exact ⟨rfl, _, _, hV, hS⟩)
                    | (rw [undo_8 (by omega) h0 hx]; exact ⟨rfl, _, _, hV, hS⟩)
                    | (rw [undo_6 (by omega)]; exact ⟨rfl, _, _, hV, hS⟩)
                    | (rw [undo_7 (by omega) (by omega)]; exact ⟨rfl, _, _, hV, hS⟩)
                    | (rw [undo_7n (by omega) (by omega)]; exact ⟨rfl, VRet.ext hv (by repeat (first | assumption | exact Ext.refl _ | refine Ext.alloc ?_ _ | refine Ext.drew ?_ | refine Ext.setB ?_ (by first | omega | (simp only [size_alloc, size_setB, size_drew]; omega)) _ | refine Ext.trans ?_ (by assumption)))⟩)
                    | (rw [undo_An (by unfold Entry.isA; omega) (by omega)]; exact ⟨rfl, VRet.ext hv (by repeat (first | assumption | exact Ext.refl _ | refine Ext.alloc ?_ _ | refine Ext.drew ?_ | refine Ext.setB ?_ (by first | omega | (simp only [size_alloc, size_setB, size_drew]; omega)) _ | refine Ext.trans ?_ (by assumption)))⟩)
                    | (rw [undo_Sn (by unfold Entry.isS; omega) (by omega)]; exact ⟨rfl, VRet.ext hv (by repeat (first | assumption | exact Ext.refl _ | refine Ext.alloc ?_ _ | refine Ext.drew ?_ | refine Ext.setB ?_ (by first | omega | (simp only [size_alloc, size_setB, size_drew]; omega)) _ | refine Ext.trans ?_ (by assumption)))⟩)
                    | (rw [undo_8n (by omega) (by omega)]; exact ⟨rfl, VRet.ext hv (by repeat (first | assumption | exact Ext.refl _ | refine Ext.alloc ?_ _ | refine Ext.drew ?_ | refine Ext.setB ?_ (by first | omega | (simp only [size_alloc, size_setB, size_drew]; omega)) _ | refine Ext.trans ?_ (by assumption)))⟩)
                    | (rw [undo_n (by unfold Entry.isA; omega) (by unfold Entry.isS; omega) (by omega) (by omega) (by omega)]; exact ⟨rfl, VRet.ext hv (by repeat (first | assumption | exact Ext.refl _ | refine Ext.alloc ?_ _ | refine Ext.drew ?_ | refine Ext.setB ?_ (by first | omega | (simp only [size_alloc, size_setB, size_drew]; omega)) _ | refine Ext.trans ?_ (by assumption)))⟩)
                    | (exfalso; omega)
                  · have hb20p := hb20.h; simp only [al_ete, al_dfn, Bool.not_eq_true', Bool.not_eq_false', al_ne, Bool.not_not, al_nn] at hb20p
                    refine W_skip ?_
                    refine inBlk_normal ?_
                    refine inBlk_normal ?_
                    refine thn_normal ?_
                    refine W_seq ?_
                    refine W_region rfl ?_
                    refine WO_p (PS_assign_bool rfl) ?_
                    refine WO_nil ?_
                    refine thn_normal ?_
                    refine W_ret ?_
                    refine bodyQ_ret1 Hvad.results268 rfl (.bool _) rfl ?_
                    first
                    | (rw [undo_0 (by omega) h0 hx]; exact ⟨rfl, _, _, hV, hS⟩)
                    | (rw [undo_1 (by omega) h0 hx]; exact ⟨rfl, _, _, hV, hS⟩)
                    | (rw [undo_2 (by omega) h0 hx]; exact ⟨rfl, _, _, hV, hS⟩)
                    | (rw [undo_4 (by omega) h0 hx]; exact ⟨rfl, _, _, hV, hS⟩)
                    | (rw [undo_9 (by omega) h0 hx]; exact ⟨rfl, _, _, hV, hS⟩)
                    | (rw [undo_10 (by omega) h0 hx]; exact ⟨rfl, _, _, hV, hS⟩)
                    | (rw [undo_3 (by omega) h0 hx]; exact ⟨rfl, _, _, hV, hS⟩)
                    | (rw [undo_5 (by omega) h0 hx]; exact ⟨rfl, _, _, hV, hS⟩)
                    | (rw [undo_8 (by omega) h0 hx]; exact ⟨rfl, _, _, hV, hS⟩)
                    | (rw [undo_6 (by omega)]; exact ⟨rfl, _, _, hV, hS⟩)
                    | (rw [undo_7 (by omega) (by omega)]; exact ⟨rfl, _, _, hV, hS⟩)
                    | (rw [undo_7n (by omega) (by omega)]; exact ⟨rfl, VRet.ext hv (by repeat (first | assumption | exact Ext.refl _ | refine Ext.alloc ?_ _ | refine Ext.drew ?_ | refine Ext.setB ?_ (by first | omega | (simp only [size_alloc, size_setB, size_drew]; omega)) _ | refine Ext.trans ?_ (by assumption)))⟩)
                    | (rw [undo_An (by unfold Entry.isA; omega) (by omega)]; exact ⟨rfl, VRet.ext hv (by repeat (first | assumption | exact Ext.refl _ | refine Ext.alloc ?_ _ | refine Ext.drew ?_ | refine Ext.setB ?_ (by first | omega | (simp only [size_alloc, size_setB, size_drew]; omega)) _ | refine Ext.trans ?_ (by assumption)))⟩)
                    | (rw [undo_Sn (by unfold Entry.isS; omega) (by omega)]; exact ⟨rfl, VRet.ext hv (by repeat (first | assumption | exact Ext.refl _ | refine Ext.alloc ?_ _ | refine Ext.drew ?_ | refine Ext.setB ?_ (by first | omega | (simp only [size_alloc, size_setB, size_drew]; omega)) _ | refine Ext.trans ?_ (by assumption)))⟩)
                    | (rw [undo_8n (by omega) (by omega)]; exact ⟨rfl, VRet.ext hv (by repeat (first | assumption | exact Ext.refl _ | refine Ext.alloc ?_ _ | refine Ext.drew ?_ | refine Ext.setB ?_ (by first | omega | (simp only [size_alloc, size_setB, size_drew]; omega)) _ | refine Ext.trans ?_ (by assumption)))⟩)
                    | (rw [undo_n (by unfold Entry.isA; omega) (by unfold Entry.isS; omega) (by omega) (by omega) (by omega)]; exact ⟨rfl, VRet.ext hv (by repeat (first | assumption | exact Ext.refl _ | refine Ext.alloc ?_ _ | refine Ext.drew ?_ | refine Ext.setB ?_ (by first | omega | (simp only [size_alloc, size_setB, size_drew]; omega)) _ | refine Ext.trans ?_ (by assumption)))⟩)
                    | (exfalso; omega)
  · have hb2p := hb2.h; simp only [al_ete, al_dfn, Bool.not_eq_true', Bool.not_eq_false', al_ne, Bool.not_not, al_nn] at hb2p
    refine W_seq ?_
    refine W_region rfl ?_
    refine WO_p (PS_eql rfl rfl) ?_
    refine WO_p (PS_assign_bool rfl) ?_
    refine WO_nil ?_
    refine thn_normal ?_
    refine W_if rfl (fun hb23 => ?_) (fun hb23 => ?_)
    · have hb23p := hb23.h; simp only [al_ete, al_dfn, Bool.not_eq_true', Bool.not_eq_false', al_ne, Bool.not_not, al_nn] at hb23p
      refine W_skip ?_
      refine thn_normal ?_
      refine W_condT rfl hb23.h ?_
      refine W_seq ?_
      refine W_seq ?_
      refine W_drawE [false, false, false, false, false, false, false, false, false, false, false, false, false, false, false, false, false, false] hmix (by kernel_rfl) rfl ?_
      refine WH_p (PS_move_ptr rfl) rfl ?_
      refine WH_p (PS_nilCheck rfl) rfl ?_
      refine WH_p (PS_fieldAddr 1 Hvad.runUnderlying173 rfl Hvad.sizeOf21 rfl rfl) rfl ?_
      refine WH_load (.int _ _) Hvad.isAgg21 rfl (Hb.h (by repeat (first | assumption | exact Hb.newY _ _ | refine Hb.alloc ?_ | refine Hb.drew ?_ | refine Hb.ext (by assumption) ?_ | exact Hb.setSameL (by first | omega | (simp only [size_alloc, size_setB, size_drew]; omega)) | exact Hb.setSame (by assumption) | refine Hb.set (by first | omega | (simp only [size_alloc, size_setB, size_drew]; omega)) ?_ ))) (Ce.h (by first | assumption | exact ⟨rfl⟩)) ?_
      refine WH_p (PS_lss rfl rfl) rfl ?_
      refine WH_p (PS_move_bool rfl) rfl ?_
      refine WH_if (t := 22) rfl (fun hb25 => ?_) (fun hb25 => ?_)
      · have hb25p := hb25.h; simp only [al_ete, al_dfn, Bool.not_eq_true', Bool.not_eq_false', al_ne, Bool.not_not, al_nn] at hb25p
        refine WH_guardF rfl rfl hb25.h ?_
        refine WH_guardF rfl rfl hb25.h ?_
        refine WH_guardF rfl rfl hb25.h ?_
        refine WH_guardF rfl rfl hb25.h ?_
        refine WH_guardF rfl rfl hb25.h ?_
        refine WH_guardF rfl rfl hb25.h ?_
        refine WH_guardF rfl rfl hb25.h ?_
        refine WH_guardF rfl rfl hb25.h ?_
        refine WH_guardF rfl rfl hb25.h ?_
        refine WH_guardF rfl rfl hb25.h ?_
        refine WH_guardF rfl rfl hb25.h ?_
        refine WH_p (PS_pickT rfl hb25.h rfl) rfl ?_
        refine WH_nil ?_
        refine thn_normal ?_
        refine W_condT rfl rfl ?_
        refine W_seq ?_
        refine W_region rfl ?_
        refine WO_p (PS_assign_bool rfl) ?_
        refine WO_nil ?_
        refine thn_normal ?_
        refine W_ret ?_
        refine thn_ret ?_
        refine inBlk_ret ?_
        refine thn_ret ?_
        refine bodyQ_ret1 Hvad.results268 rfl (.bool _) rfl ?_
        first
        | (rw [undo_0 (by omega) h0 hx]; exact ⟨rfl, _, _, hV, hS⟩)
        | (rw [undo_1 (by omega) h0 hx]; exact ⟨rfl, _, _, hV, hS⟩)
        | (rw [undo_2 (by omega) h0 hx]; exact ⟨rfl, _, _, hV, hS⟩)
        | (rw [undo_4 (by omega) h0 hx]; exact ⟨rfl, _, _, hV, hS⟩)
        | (rw [undo_9 (by omega) h0 hx]; exact ⟨rfl, _, _, hV, hS⟩)
        | (rw [undo_10 (by omega) h0 hx]; exact ⟨rfl, _, _, hV, hS⟩)
        | (rw [undo_3 (by omega) h0 hx]; exact ⟨rfl, _, _, hV, hS⟩)
        | (rw [undo_5 (by omega) h0 hx]; exact ⟨rfl, _, _, hV, hS⟩)
        | (rw [undo_8 (by omega) h0 hx]; exact ⟨rfl, _, _, hV, hS⟩)
        | (rw [undo_6 (by omega)]; exact ⟨rfl, _, _, hV, hS⟩)
        | (rw [undo_7 (by omega) (by omega)]; exact ⟨rfl, _, _, hV, hS⟩)
        | (rw [undo_7n (by omega) (by omega)]; exact ⟨rfl, VRet.ext hv (by repeat (first | assumption | exact Ext.refl _ | refine Ext.alloc ?_ _ | refine Ext.drew ?_ | refine Ext.setB ?_ (by first | omega | (simp only [size_alloc, size_setB, size_drew]; omega)) _ | refine Ext.trans ?_ (by assumption)))⟩)
        | (rw [undo_An (by unfold Entry.isA; omega) (by omega)]; exact ⟨rfl, VRet.ext hv (by repeat (first | assumption | exact Ext.refl _ | refine Ext.alloc ?_ _ | refine Ext.drew ?_ | refine Ext.setB ?_ (by first | omega | (simp only [size_alloc, size_setB, size_drew]; omega)) _ | refine Ext.trans ?_ (by assumption)))⟩)
        | (rw [undo_Sn (by unfold Entry.isS; omega) (by omega)]; exact ⟨rfl, VRet.ext hv (by repeat (first | assumption | exact Ext.refl _ | refine Ext.alloc ?_ _ | refine Ext.drew ?_ | refine Ext.setB ?_ (by first | omega | (simp only [size_alloc, size_setB, size_drew]; omega)) _ | refine Ext.trans ?_ (by assumption)))⟩)
        | (rw [undo_8n (by omega) (by omega)]; exact ⟨rfl, VRet.ext hv (by repeat (first | assumption | exact Ext.refl _ | refine Ext.alloc ?_ _ | refine Ext.drew ?_ | refine Ext.setB ?_ (by first | omega | (simp only [size_alloc, size_setB, size_drew]; omega)) _ | refine Ext.trans ?_ (by assumption)))⟩)
        | (rw [undo_n (by unfold Entry.isA; omega) (by unfold Entry.isS; omega) (by omega) (by omega) (by omega)]; exact ⟨rfl, VRet.ext hv (by repeat (first | assumption | exact Ext.refl _ | refine Ext.alloc ?_ _ | refine Ext.drew ?_ | refine Ext.setB ?_ (by first | omega | (simp only [size_alloc, size_setB, size_drew]; omega)) _ | refine Ext.trans ?_ (by assumption)))⟩)
        | (exfalso; omega)
      · have hb25p := hb25.h; simp only [al_ete, al_dfn, Bool.not_eq_true', Bool.not_eq_false', al_ne, Bool.not_not, al_nn] at hb25p
        refine WH_guardT rfl rfl hb25.h ?_
        refine WH_p (PS_move_ptr rfl) rfl ?_
        refine WH_guardT rfl rfl hb25.h ?_
        refine WH_p (PS_nilCheck rfl) rfl ?_
        refine WH_guardT rfl rfl hb25.h ?_
        refine WH_p (PS_fieldAddr 1 Hvad.runUnderlying173 rfl Hvad.sizeOf21 rfl rfl) rfl ?_
        refine WH_guardT rfl rfl hb25.h ?_
        refine WH_load (.int _ _) Hvad.isAgg21 rfl (Hb.h (by repeat (first | assumption | exact Hb.newY _ _ | refine Hb.alloc ?_ | refine Hb.drew ?_ | refine Hb.ext (by assumption) ?_ | exact Hb.setSameL (by first | omega | (simp only [size_alloc, size_setB, size_drew]; omega)) | exact Hb.setSame (by assumption) | refine Hb.set (by first | omega | (simp only [size_alloc, size_setB, size_drew]; omega)) ?_ ))) (Ce.h (by first | assumption | exact ⟨rfl⟩)) ?_
        refine WH_guardT rfl rfl hb25.h ?_
        refine WH_p (PS_conv_i64n Hvad.runUnderlying21 Hvad.runUnderlying3 rfl (by omega) (by omega)) rfl ?_
        refine WH_guardT rfl rfl hb25.h ?_
        refine WH_p (PS_move_ptr rfl) rfl ?_
        refine WH_guardT rfl rfl hb25.h ?_
        refine WH_p (PS_nilCheck rfl) rfl ?_
        refine WH_guardT rfl rfl hb25.h ?_
        refine WH_p (PS_fieldAddr 0 Hvad.runUnderlying79 rfl Hvad.sizeOf70 rfl rfl) rfl ?_
        refine WH_guardT rfl rfl hb25.h ?_
        refine WH_load (.slice _ _ _) Hvad.isAgg70 rfl (Hb.h (by repeat (first | assumption | exact Hb.newY _ _ | refine Hb.alloc ?_ | refine Hb.drew ?_ | refine Hb.ext (by assumption) ?_ | exact Hb.setSameL (by first | omega | (simp only [size_alloc, size_setB, size_drew]; omega)) | exact Hb.setSame (by assumption) | refine Hb.set (by first | omega | (simp only [size_alloc, size_setB, size_drew]; omega)) ?_ ))) (Ce.h (by first | assumption | exact ⟨rfl⟩)) ?_
        refine WH_guardT rfl rfl hb25.h ?_
        refine WH_p (PS_lenS Hvad.runUnderlying70 rfl) rfl ?_
        refine WH_guardT rfl rfl hb25.h ?_
        refine WH_p (PS_geq rfl rfl) rfl ?_
        refine WH_p (PS_pickF rfl hb25.h rfl) rfl ?_
        refine WH_nil ?_
        refine thn_normal ?_
        refine W_if rfl (fun hb27 => ?_) (fun hb27 => ?_)
        · have hb27p := hb27.h; simp only [al_ete, al_dfn, Bool.not_eq_true', Bool.not_eq_false', al_ne, Bool.not_not, al_nn] at hb27p
          refine W_seq ?_
          refine W_region rfl ?_
          refine WO_p (PS_assign_bool rfl) ?_
          refine WO_nil ?_
          refine thn_normal ?_
          refine W_ret ?_
          refine thn_ret ?_
          refine inBlk_ret ?_
          refine thn_ret ?_
          refine bodyQ_ret1 Hvad.results268 rfl (.bool _) rfl ?_
          first
          | (rw [undo_0 (by omega) h0 hx]; exact ⟨rfl, _, _, hV, hS⟩)
          | (rw [undo_1 (by omega) h0 hx]; exact ⟨rfl, _, _, hV, hS⟩)
          | (rw [undo_2 (by omega) h0 hx]; exact ⟨rfl, _, _, hV, hS⟩)
          | (rw [undo_4 (by omega) h0 hx]; exact ⟨rfl, _, _, hV, hS⟩)
          | (rw [undo_9 (by omega) h0 hx]; exact ⟨rfl, _, _, hV, hS⟩)
          | (rw [undo_10 (by omega) h0 hx]; exact ⟨rfl, _, _, hV, hS⟩)
          | (rw [undo_3 (by omega) h0 hx]; exact ⟨rfl, _, _, hV, hS⟩)
          | (rw [undo_5 (by omega) h0 hx]; exact ⟨rfl, _, _, hV, hS⟩)
          | (rw [undo_8 (by omega) h0 hx]; exact ⟨rfl, _, _, hV, hS⟩)
          | (rw [undo_6 (by omega)]; exact ⟨rfl, _, _, hV, hS⟩)
          | (rw [undo_7 (by omega) (by omega)]; exact ⟨rfl, _, _, hV, hS⟩)
          | (rw [undo_7n (by omega) (by omega)]; exact ⟨rfl, VRet.ext hv (by repeat (first | assumption | exact Ext.refl _ | refine Ext.alloc ?_ _ | refine Ext.drew ?_ | refine Ext.setB ?_ (by first | omega | (simp only [size_alloc, size_setB, size_drew]; omega)) _ | refine Ext.trans ?_ (by assumption)))⟩)
          | (rw [undo_An (by unfold Entry.isA; omega) (by omega)]; exact ⟨rfl, VRet.ext hv (by repeat (first | assumption | exact Ext.refl _ | refine Ext.alloc ?_ _ | refine Ext.drew ?_ | refine Ext.setB ?_ (by first | omega | (simp only [size_alloc, size_setB, size_drew]; omega)) _ | refine Ext.trans ?_ (by assumption)))⟩)
          | (rw [undo_Sn (by unfold Entry.isS; omega) (by omega)]; exact ⟨rfl, VRet.ext hv (by repeat (first | assumption | exact Ext.refl _ | refine Ext.alloc ?_ _ | refine Ext.drew ?_ | refine Ext.setB ?_ (by first | omega | (simp only [size_alloc, size_setB, size_drew]; omega)) _ | refine Ext.trans ?_ (by assumption)))⟩)
          | (rw [undo_8n (by omega) (by omega)]; exact ⟨rfl, VRet.ext hv (by repeat (first | assumption | exact Ext.refl _ | refine Ext.alloc ?_ _ | refine Ext.drew ?_ | refine Ext.setB ?_ (by first | omega | (simp only [size_alloc, size_setB, size_drew]; omega)) _ | refine Ext.trans ?_ (by assumption)))⟩)
          | (rw [undo_n (by unfold Entry.isA; omega) (by unfold Entry.isS; omega) (by omega) (by omega) (by omega)]; exact ⟨rfl, VRet.ext hv (by repeat (first | assumption | exact Ext.refl _ | refine Ext.alloc ?_ _ | refine Ext.drew ?_ | refine Ext.setB ?_ (by first | omega | (simp only [size_alloc, size_setB, size_drew]; omega)) _ | refine Ext.trans ?_ (by assumption)))⟩)
          | (exfalso; omega)
        · have hb27p := hb27.h; simp only [al_ete, al_dfn, Bool.not_eq_true', Bool.not_eq_false', al_ne, Bool.not_not, al_nn] at hb27p
          have h0 : 0 ≤ e.at_ := by omega
          obtain ⟨x, hx⟩ : ∃ x, v.accts[e.at_.toNat]? = some x := ⟨_, List.getElem?_eq_getElem (by omega)⟩
          clear hda
          obtain ⟨b, cap, r, hab, hcap, hr, hrs, hrow, hda, hbd, hil, hty, f0, f1, f2, f3, f4, f5, f6⟩ := hv.openA hx
          refine W_skip ?_
          refine thn_normal ?_
          refine W_seq ?_
          refine W_drawE [false, false, false, false, false, false, false, false, false, false] hmix (by kernel_rfl) rfl ?_
          refine WH_p (PS_move_ptr rfl) rfl ?_
          refine WH_p (PS_nilCheck rfl) rfl ?_
          refine WH_p (PS_fieldAddr 0 Hvad.runUnderlying79 rfl Hvad.sizeOf70 rfl rfl) rfl ?_
          refine WH_load (.slice _ _ _) Hvad.isAgg70 rfl (Hb.h (by repeat (first | assumption | exact Hb.newY _ _ | refine Hb.alloc ?_ | refine Hb.drew ?_ | refine Hb.ext (by assumption) ?_ | exact Hb.setSameL (by first | omega | (simp only [size_alloc, size_setB, size_drew]; omega)) | exact Hb.setSame (by assumption) | refine Hb.set (by first | omega | (simp only [size_alloc, size_setB, size_drew]; omega)) ?_ ))) (Ce.h (by first | assumption | exact ⟨rfl⟩)) ?_
          refine WH_p (PS_move_ptr rfl) rfl ?_
          refine WH_p (PS_nilCheck rfl) rfl ?_
          refine WH_p (PS_fieldAddr 1 Hvad.runUnderlying173 rfl Hvad.sizeOf21 rfl rfl) rfl ?_
          refine WH_load (.int _ _) Hvad.isAgg21 rfl (Hb.h (by repeat (first | assumption | exact Hb.newY _ _ | refine Hb.alloc ?_ | refine Hb.drew ?_ | refine Hb.ext (by assumption) ?_ | exact Hb.setSameL (by first | omega | (simp only [size_alloc, size_setB, size_drew]; omega)) | exact Hb.setSame (by assumption) | refine Hb.set (by first | omega | (simp only [size_alloc, size_setB, size_drew]; omega)) ?_ ))) (Ce.h (by first | assumption | exact ⟨rfl⟩)) ?_
          refine WH_p (PS_indexS Hvad.runUnderlying70 Hvad.sizeOf149 rfl rfl (by omega) (by omega)) rfl ?_
          refine WH_p (PS_assign_ptr rfl) rfl ?_
          refine WH_nil ?_
          refine thn_normal ?_
          refine W_seq ?_
          refine W_region rfl ?_
          refine WO_p (PS_move_ptr rfl) ?_
          refine WO_p (PS_nilCheck rfl) ?_
          refine WO_p (PS_fieldAddr 0 Hvad.runUnderlying173 rfl Hvad.sizeOf5 rfl rfl) ?_
          refine WO_load (.int _ _) Hvad.isAgg5 rfl (Hb.h (by repeat (first | assumption | exact Hb.newY _ _ | refine Hb.alloc ?_ | refine Hb.drew ?_ | refine Hb.ext (by assumption) ?_ | exact Hb.setSameL (by first | omega | (simp only [size_alloc, size_setB, size_drew]; omega)) | exact Hb.setSame (by assumption) | refine Hb.set (by first | omega | (simp only [size_alloc, size_setB, size_drew]; omega)) ?_ ))) (Ce.h (by first | assumption | exact ⟨rfl⟩)) ?_
          refine WO_nil ?_
          refine thn_normal ?_
          refine W_block ?_
          refine W_seq ?_
          refine W_region rfl ?_
          refine WO_p (PS_eql rfl rfl) ?_
          refine WO_p (PS_assign_bool rfl) ?_
          refine WO_nil ?_
          refine thn_normal ?_
          refine W_if rfl (fun hb29 => ?_) (fun hb29 => ?_)
          · have hb29p := hb29.h; simp only [al_ete, al_dfn, Bool.not_eq_true', Bool.not_eq_false', al_ne, Bool.not_not, al_nn] at hb29p
            refine W_region rfl ?_
            refine WO_p (PS_move_ptr rfl) ?_
            refine WO_p (PS_move_ptr rfl) ?_
            refine WO_p (PS_nilCheck rfl) ?_
            refine WO_p (PS_fieldAddr 3 Hvad.runUnderlying173 rfl Hvad.sizeOf59 rfl rfl) ?_
            refine WO_loadA _ Hvad.isAgg59 Hvad.sizeOf59 rfl (Hb.h (by repeat (first | assumption | exact Hb.newY _ _ | refine Hb.alloc ?_ | refine Hb.drew ?_ | refine Hb.ext (by assumption) ?_ | exact Hb.setSameL (by first | omega | (simp only [size_alloc, size_setB, size_drew]; omega)) | exact Hb.setSame (by assumption) | refine Hb.set (by first | omega | (simp only [size_alloc, size_setB, size_drew]; omega)) ?_ ))) (by first | omega | assumption | rfl | decide | (simp only [size_ic, Value.cells]; omega) | simp) (Xt.h (by first | assumption | exact Xt.whole rfl rfl | exact Xt.whole rfl (by simp only [size_ic, Value.cells]; omega) | exact ⟨rfl⟩)) ?_
            refine WO_p (PS_nilCheck rfl) ?_
            refine WO_p (PS_fieldAddr 21 Hvad.runUnderlying149 rfl Hvad.sizeOf59 rfl rfl) ?_
            have hv2 := hv.ext (Ext.drew (Ext.drew (Ext.refl _)))
            have hr2 := hr.drew.drew
            refine WO_store Hvad.sizeOf59 rfl (v := .agg (ic .u64 e.w)) rfl hr2.h (by first | omega | assumption | rfl | decide | (simp only [size_ic, Value.cells]; omega) | simp) (by omega) (by first | exact oneCell_ic | assumption) ?_
            obtain ⟨hV, hS⟩ := hv2.wA_bal hx hab hcap hr2 hrs hrow e.w htj.2.2.2
            replace hS := VStep.pre (Ext.drew (Ext.drew (Ext.refl _))) hS
            refine WO_nil ?_
            refine inBlk_normal ?_
            refine inBlk_normal ?_
            refine thn_normal ?_
            refine W_seq ?_
            refine W_region rfl ?_
            refine WO_p (PS_assign_bool rfl) ?_
            refine WO_nil ?_
            refine thn_normal ?_
            refine W_ret ?_
            refine bodyQ_ret1 Hvad.results268 rfl (.bool _) rfl ?_
            first
            | (rw [undo_0 (by omega) h0 hx]; exact ⟨rfl, _, _, hV, hS⟩)
            | (rw [undo_1 (by omega) h0 hx]; exact ⟨rfl, _, _, hV, hS⟩)
            | (rw [undo_2 (by omega) h0 hx]; exact ⟨rfl, _, _, hV, hS⟩)
            | (rw [undo_4 (by omega) h0 hx]; exact ⟨rfl, _, _, hV, hS⟩)
            | (rw [undo_9 (by omega) h0 hx]; exact ⟨rfl, _, _, hV, hS⟩)
            | (rw [undo_10 (by omega) h0 hx]; exact ⟨rfl, _, _, hV, hS⟩)
            | (rw [undo_3 (by omega) h0 hx]; exact ⟨rfl, _, _, hV, hS⟩)
            | (rw [undo_5 (by omega) h0 hx]; exact ⟨rfl, _, _, hV, hS⟩)
            | (rw [undo_8 (by omega) h0 hx]; exact ⟨rfl, _, _, hV, hS⟩)
            | (rw [undo_6 (by omega)]; exact ⟨rfl, _, _, hV, hS⟩)
            | (rw [undo_7 (by omega) (by omega)]; exact ⟨rfl, _, _, hV, hS⟩)
            | (rw [undo_7n (by omega) (by omega)]; exact ⟨rfl, VRet.ext hv (by repeat (first | assumption | exact Ext.refl _ | refine Ext.alloc ?_ _ | refine Ext.drew ?_ | refine Ext.setB ?_ (by first | omega | (simp only [size_alloc, size_setB, size_drew]; omega)) _ | refine Ext.trans ?_ (by assumption)))⟩)
            | (rw [undo_An (by unfold Entry.isA; omega) (by omega)]; exact ⟨rfl, VRet.ext hv (by repeat (first | assumption | exact Ext.refl _ | refine Ext.alloc ?_ _ | refine Ext.drew ?_ | refine Ext.setB ?_ (by first | omega | (simp only [size_alloc, size_setB, size_drew]; omega)) _ | refine Ext.trans ?_ (by assumption)))⟩)
            | (rw [undo_Sn (by unfold Entry.isS; omega) (by omega)]; exact ⟨rfl, VRet.ext hv (by repeat (first | assumption | exact Ext.refl _ | refine Ext.alloc ?_ _ | refine Ext.drew ?_ | refine Ext.setB ?_ (by first | omega | (simp only [size_alloc, size_setB, size_drew]; omega)) _ | refine Ext.trans ?_ (by assumption)))⟩)
            | (rw [undo_8n (by omega) (by omega)]; exact ⟨rfl, VRet.ext hv (by repeat (first | assumption | exact Ext.refl _ | refine Ext.alloc ?_ _ | refine Ext.drew ?_ | refine Ext.setB ?_ (by first | omega | (simp only [size_alloc, size_setB, size_drew]; omega)) _ | refine Ext.trans ?_ (by assumption)))⟩)
            | (rw [undo_n (by unfold Entry.isA; omega) (by unfold Entry.isS; omega) (by omega) (by omega) (by omega)]; exact ⟨rfl, VRet.ext hv (by repeat (first | assumption | exact Ext.refl _ | refine Ext.alloc ?_ _ | refine Ext.drew ?_ | refine Ext.setB ?_ (by first | omega | (simp only [size_alloc, size_setB, size_drew]; omega)) _ | refine Ext.trans ?_ (by assumption)))⟩)
            | (exfalso; omega)
          · have hb29p := hb29.h; simp only [al_ete, al_dfn, Bool.not_eq_true', Bool.not_eq_false', al_ne, Bool.not_not, al_nn] at hb29p
            refine W_seq ?_
            refine W_region rfl ?_
            refine WO_p (PS_eql rfl rfl) ?_
            refine WO_p (PS_assign_bool rfl) ?_
            refine WO_nil ?_
            refine thn_normal ?_
            refine W_if rfl (fun hb31 => ?_) (fun hb31 => ?_)
            · have hb31p := hb31.h; simp only [al_ete, al_dfn, Bool.not_eq_true', Bool.not_eq_false', al_ne, Bool.not_not, al_nn] at hb31p
              refine W_region rfl ?_
              refine WO_p (PS_move_ptr rfl) ?_
              refine WO_p (PS_move_ptr rfl) ?_
              refine WO_p (PS_nilCheck rfl) ?_
              refine WO_p (PS_fieldAddr 2 Hvad.runUnderlying173 rfl Hvad.sizeOf26 rfl rfl) ?_
              refine WO_load (.int _ _) Hvad.isAgg26 rfl (Hb.h (by repeat (first | assumption | exact Hb.newY _ _ | refine Hb.alloc ?_ | refine Hb.drew ?_ | refine Hb.ext (by assumption) ?_ | exact Hb.setSameL (by first | omega | (simp only [size_alloc, size_setB, size_drew]; omega)) | exact Hb.setSame (by assumption) | refine Hb.set (by first | omega | (simp only [size_alloc, size_setB, size_drew]; omega)) ?_ ))) (Ce.h (by first | assumption | exact ⟨rfl⟩)) ?_
              refine WO_p (PS_nilCheck rfl) ?_
              refine WO_p (PS_fieldAddr 20 Hvad.runUnderlying149 rfl Hvad.sizeOf26 rfl rfl) ?_
              have hv2 := hv.ext (Ext.drew (Ext.drew (Ext.refl _)))
              have hr2 := hr.drew.drew
              refine WO_store1 Hvad.sizeOf26 rfl (v := .int _ _) rfl hr2.h rfl (by omega) rfl ?_
              obtain ⟨hV, hS⟩ := hv2.wA_nonce hx hab hcap hr2 hrs hrow e.n htj.2.2.1
              replace hS := VStep.pre (Ext.drew (Ext.drew (Ext.refl _))) hS
              refine WO_nil ?_
              refine inBlk_normal ?_
              refine inBlk_normal ?_
              refine thn_normal ?_
              refine W_seq ?_
              refine W_region rfl ?_
              refine WO_p (PS_assign_bool rfl) ?_
              refine WO_nil ?_
              refine thn_normal ?_
              refine W_ret ?_
              refine bodyQ_ret1 Hvad.results268 rfl (.bool _) rfl ?_
              first
              | (rw [undo_0 (by omega) h0 hx]; exact ⟨rfl, _, _, hV, hS⟩)
              | (rw [undo_1 (by omega) h0 hx]; exact ⟨rfl, _, _, hV, hS⟩)
              | (rw [undo_2 (by omega) h0 hx]; exact ⟨rfl, _, _, hV, hS⟩)
              | (rw [undo_4 (by omega) h0 hx]; exact ⟨rfl, _, _, hV, hS⟩)
              | (rw [undo_9 (by omega) h0 hx]; exact ⟨rfl, _, _, hV, hS⟩)
              | (rw [undo_10 (by omega) h0 hx]; exact ⟨rfl, _, _, hV, hS⟩)
              | (rw [undo_3 (by omega) h0 hx]; exact ⟨rfl, _, _, hV, hS⟩)
              | (rw [undo_5 (by omega) h0 hx]; exact ⟨rfl, _, _, hV, hS⟩)
              | (rw [undo_8 (by omega) h0 hx]; exact ⟨rfl, _, _, hV, hS⟩)
              | (rw [undo_6 (by omega)]; exact ⟨rfl, _, _, hV, hS⟩)
              | (rw [undo_7 (by omega) (by omega)]; exact ⟨rfl, _, _, hV, hS⟩)
              | (rw [undo_7n (by omega) (by omega)]; exact ⟨rfl, VRet.ext hv (by repeat (first | assumption | exact Ext.refl _ | refine Ext.alloc ?_ _ | refine Ext.drew ?_ | refine Ext.setB ?_ (by first | omega | (simp only [size_alloc, size_setB, size_drew]; omega)) _ | refine Ext.trans ?_ (by assumption)))⟩)
              | (rw [undo_An (by unfold Entry.isA; omega) (by omega)]; exact ⟨rfl, VRet.ext hv (by repeat (first | assumption | exact Ext.refl _ | refine Ext.alloc ?_ _ | refine Ext.drew ?_ | refine Ext.setB ?_ (by first | omega | (simp only [size_alloc, size_setB, size_drew]; omega)) _ | refine Ext.trans ?_ (by assumption)))⟩)
              | (rw [undo_Sn (by unfold Entry.isS; omega) (by omega)]; exact ⟨rfl, VRet.ext hv (by repeat (first | assumption | exact Ext.refl _ | refine Ext.alloc ?_ _ | refine Ext.drew ?_ | refine Ext.setB ?_ (by first | omega | (simp only [size_alloc, size_setB, size_drew]; omega)) _ | refine Ext.trans ?_ (by assumption)))⟩)
              | (rw [undo_8n (by omega) (by omega)]; exact ⟨rfl, VRet.ext hv (by repeat (first | assumption | exact Ext.refl _ | refine Ext.alloc ?_ _ | refine Ext.drew ?_ | refine Ext.setB ?_ (by first | omega | (simp only [size_alloc, size_setB, size_drew]; omega)) _ | refine Ext.trans ?_ (by assumption)))⟩)
              | (rw [undo_n (by unfold Entry.isA; omega) (by unfold Entry.isS; omega) (by omega) (by omega) (by omega)]; exact ⟨rfl, VRet.ext hv (by repeat (first | assumption | exact Ext.refl _ | refine Ext.alloc ?_ _ | refine Ext.drew ?_ | refine Ext.setB ?_ (by first | omega | (simp only [size_alloc, size_setB, size_drew]; omega)) _ | refine Ext.trans ?_ (by assumption)))⟩)
              | (exfalso; omega)
            · have hb31p := hb31.h; simp only [al_ete, al_dfn, Bool.not_eq_true', Bool.not_eq_false', al_ne, Bool.not_not, al_nn] at hb31p
              refine W_seq ?_
              refine W_region rfl ?_
              refine WO_p (PS_eql rfl rfl) ?_
              refine WO_p (PS_assign_bool rfl) ?_
              refine WO_nil ?_
              refine thn_normal ?_
              refine W_if rfl (fun hb33 => ?_) (fun hb33 => ?_)
              · have hb33p := hb33.h; simp only [al_ete, al_dfn, Bool.not_eq_true', Bool.not_eq_false', al_ne, Bool.not_not, al_nn] at hb33p
                refine W_region rfl ?_
                refine WO_p (PS_move_ptr rfl) ?_
                refine WO_p (PS_move_ptr rfl) ?_
                refine WO_p (PS_nilCheck rfl) ?_
                refine WO_p (PS_fieldAddr 7 Hvad.runUnderlying173 rfl Hvad.sizeOf32 rfl rfl) ?_
                refine WO_load (.slice _ _ _) Hvad.isAgg32 rfl (Hb.h (by repeat (first | assumption | exact Hb.newY _ _ | refine Hb.alloc ?_ | refine Hb.drew ?_ | refine Hb.ext (by assumption) ?_ | exact Hb.setSameL (by first | omega | (simp only [size_alloc, size_setB, size_drew]; omega)) | exact Hb.setSame (by assumption) | refine Hb.set (by first | omega | (simp only [size_alloc, size_setB, size_drew]; omega)) ?_ ))) (Ce.h (by first | assumption | exact ⟨rfl⟩)) ?_
                refine WO_p (PS_nilCheck rfl) ?_
                refine WO_p (PS_fieldAddr 25 Hvad.runUnderlying149 rfl Hvad.sizeOf32 rfl rfl) ?_
                have hv2 := hv.ext (Ext.drew (Ext.drew (Ext.refl _)))
                have hr2 := hr.drew.drew
                have hbe := hv2.olds e (List.mem_of_getElem? he)
                refine WO_store1 Hvad.sizeOf32 rfl (v := .slice _ _ _) rfl hr2.h rfl (by omega) rfl ?_
                obtain ⟨hV, hS⟩ := hv2.wA_code hx hab hcap hr2 hrs hrow e.b hbe
                replace hS := VStep.pre (Ext.drew (Ext.drew (Ext.refl _))) hS
                refine WO_nil ?_
                refine inBlk_normal ?_
                refine inBlk_normal ?_
                refine thn_normal ?_
                refine W_seq ?_
                refine W_region rfl ?_
                refine WO_p (PS_assign_bool rfl) ?_
                refine WO_nil ?_
                refine thn_normal ?_
                refine W_ret ?_
                refine bodyQ_ret1 Hvad.results268 rfl (.bool _) rfl ?_
                first
                | (rw [undo_0 (by omega) h0 hx]; exact ⟨rfl, _, _, hV, hS⟩)
                | (rw [undo_1 (by omega) h0 hx]; exact ⟨rfl, _, _, hV, hS⟩)
                | (rw [undo_2 (by omega) h0 hx]; exact ⟨rfl, _, _, hV, hS⟩)
                | (rw [undo_4 (by omega) h0 hx]; exact ⟨rfl, _, _, hV, hS⟩)
                | (rw [undo_9 (by omega) h0 hx]; exact ⟨rfl, _, _, hV, hS⟩)
                | (rw [undo_10 (by omega) h0 hx]; exact ⟨rfl, _, _, hV, hS⟩)
                | (rw [undo_3 (by omega) h0 hx]; exact ⟨rfl, _, _, hV, hS⟩)
                | (rw [undo_5 (by omega) h0 hx]; exact ⟨rfl, _, _, hV, hS⟩)
                | (rw [undo_8 (by omega) h0 hx]; exact ⟨rfl, _, _, hV, hS⟩)
                | (rw [undo_6 (by omega)]; exact ⟨rfl, _, _, hV, hS⟩)
                | (rw [undo_7 (by omega) (by omega)]; exact ⟨rfl, _, _, hV, hS⟩)
                | (rw [undo_7n (by omega) (by omega)]; exact ⟨rfl, VRet.ext hv (by repeat (first | assumption | exact Ext.refl _ | refine Ext.alloc ?_ _ | refine Ext.drew ?_ | refine Ext.setB ?_ (by first | omega | (simp only [size_alloc, size_setB, size_drew]; omega)) _ | refine Ext.trans ?_ (by assumption)))⟩)
                | (rw [undo_An (by unfold Entry.isA; omega) (by omega)]; exact ⟨rfl, VRet.ext hv (by repeat (first | assumption | exact Ext.refl _ | refine Ext.alloc ?_ _ | refine Ext.drew ?_ | refine Ext.setB ?_ (by first | omega | (simp only [size_alloc, size_setB, size_drew]; omega)) _ | refine Ext.trans ?_ (by assumption)))⟩)
                | (rw [undo_Sn (by unfold Entry.isS; omega) (by omega)]; exact ⟨rfl, VRet.ext hv (by repeat (first | assumption | exact Ext.refl _ | refine Ext.alloc ?_ _ | refine Ext.drew ?_ | refine Ext.setB ?_ (by first | omega | (simp only [size_alloc, size_setB, size_drew]; omega)) _ | refine Ext.trans ?_ (by assumption)))⟩)
                | (rw [undo_8n (by omega) (by omega)]; exact ⟨rfl, VRet.ext hv (by repeat (first | assumption | exact Ext.refl _ | refine Ext.alloc ?_ _ | refine Ext.drew ?_ | refine Ext.setB ?_ (by first | omega | (simp only [size_alloc, size_setB, size_drew]; omega)) _ | refine Ext.trans ?_ (by assumption)))⟩)
                | (rw [undo_n (by unfold Entry.isA; omega) (by unfold Entry.isS; omega) (by omega) (by omega) (by omega)]; exact ⟨rfl, VRet.ext hv (by repeat (first | assumption | exact Ext.refl _ | refine Ext.alloc ?_ _ | refine Ext.drew ?_ | refine Ext.setB ?_ (by first | omega | (simp only [size_alloc, size_setB, size_drew]; omega)) _ | refine Ext.trans ?_ (by assumption)))⟩)
                | (exfalso; omega)
              · have hb33p := hb33.h; simp only [al_ete, al_dfn, Bool.not_eq_true', Bool.not_eq_false', al_ne, Bool.not_not, al_nn] at hb33p
                refine W_seq ?_
                refine W_region rfl ?_
                refine WO_p (PS_eql rfl rfl) ?_
                refine WO_p (PS_assign_bool rfl) ?_
                refine WO_nil ?_
                refine thn_normal ?_
                refine W_if rfl (fun hb35 => ?_) (fun hb35 => ?_)
                · have hb35p := hb35.h; simp only [al_ete, al_dfn, Bool.not_eq_true', Bool.not_eq_false', al_ne, Bool.not_not, al_nn] at hb35p
                  refine W_region rfl ?_
                  refine WO_p (PS_move_ptr rfl) ?_
                  refine WO_p (PS_move_ptr rfl) ?_
                  refine WO_p (PS_nilCheck rfl) ?_
                  refine WO_p (PS_fieldAddr 8 Hvad.runUnderlying173 rfl Hvad.sizeOf4 rfl rfl) ?_
                  refine WO_load (.bool _) Hvad.isAgg4 rfl (Hb.h (by repeat (first | assumption | exact Hb.newY _ _ | refine Hb.alloc ?_ | refine Hb.drew ?_ | refine Hb.ext (by assumption) ?_ | exact Hb.setSameL (by first | omega | (simp only [size_alloc, size_setB, size_drew]; omega)) | exact Hb.setSame (by assumption) | refine Hb.set (by first | omega | (simp only [size_alloc, size_setB, size_drew]; omega)) ?_ ))) (Ce.h (by first | assumption | exact ⟨rfl⟩)) ?_
                  refine WO_p (PS_nilCheck rfl) ?_
                  refine WO_p (PS_fieldAddr 26 Hvad.runUnderlying149 rfl Hvad.sizeOf4 rfl rfl) ?_
                  have hv2 := hv.ext (Ext.drew (Ext.drew (Ext.refl _)))
                  have hr2 := hr.drew.drew
                  refine WO_store1 Hvad.sizeOf4 rfl (v := .bool _) rfl hr2.h rfl (by omega) rfl ?_
                  obtain ⟨hV, hS⟩ := hv2.wA_warm hx hab hcap hr2 hrs hrow e.flag trivial
                  replace hS := VStep.pre (Ext.drew (Ext.drew (Ext.refl _))) hS
                  refine WO_nil ?_
                  refine inBlk_normal ?_
                  refine inBlk_normal ?_
                  refine thn_normal ?_
                  refine W_seq ?_
                  refine W_region rfl ?_
                  refine WO_p (PS_assign_bool rfl) ?_
                  refine WO_nil ?_
                  refine thn_normal ?_
                  refine W_ret ?_
                  refine bodyQ_ret1 Hvad.results268 rfl (.bool _) rfl ?_
                  first
                  | (rw [undo_0 (by omega) h0 hx]; exact ⟨rfl, _, _, hV, hS⟩)
                  | (rw [undo_1 (by omega) h0 hx]; exact ⟨rfl, _, _, hV, hS⟩)
                  | (rw [undo_2 (by omega) h0 hx]; exact ⟨rfl, _, _, hV, hS⟩)
                  | (rw [undo_4 (by omega) h0 hx]; exact ⟨rfl, _, _, hV, hS⟩)
                  | (rw [undo_9 (by omega) h0 hx]; exact ⟨rfl, _, _, hV, hS⟩)
                  | (rw [undo_10 (by omega) h0 hx]; exact ⟨rfl, _, _, hV, hS⟩)
                  | (rw [undo_3 (by omega) h0 hx]; exact ⟨rfl, _, _, hV, hS⟩)
                  | (rw [undo_5 (by omega) h0 hx]; exact ⟨rfl, _, _, hV, hS⟩)
                  | (rw [undo_8 (by omega) h0 hx]; exact ⟨rfl, _, _, hV, hS⟩)
                  | (rw [undo_6 (by omega)]; exact ⟨rfl, _, _, hV, hS⟩)
                  | (rw [undo_7 (by omega) (by omega)]; exact ⟨rfl, _, _, hV, hS⟩)
                  | (rw [undo_7n (by omega) (by omega)]; exact ⟨rfl, VRet.ext hv (by repeat (first | assumption | exact Ext.refl _ | refine Ext.alloc ?_ _ | refine Ext.drew ?_ | refine Ext.setB ?_ (by first | omega | (simp only [size_alloc, size_setB, size_drew]; omega)) _ | refine Ext.trans ?_ (by assumption)))⟩)
                  | (rw [undo_An (by unfold Entry.isA; omega) (by omega)]; exact ⟨rfl, VRet.ext hv (by repeat (first | assumption | exact Ext.refl _ | refine Ext.alloc ?_ _ | refine Ext.drew ?_ | refine Ext.setB ?_ (by first | omega | (simp only [size_alloc, size_setB, size_drew]; omega)) _ | refine Ext.trans ?_ (by assumption)))⟩)
                  | (rw [undo_Sn (by unfold Entry.isS; omega) (by omega)]; exact ⟨rfl, VRet.ext hv (by repeat (first | assumption | exact Ext.refl _ | refine Ext.alloc ?_ _ | refine Ext.drew ?_ | refine Ext.setB ?_ (by first | omega | (simp only [size_alloc, size_setB, size_drew]; omega)) _ | refine Ext.trans ?_ (by assumption)))⟩)
                  | (rw [undo_8n (by omega) (by omega)]; exact ⟨rfl, VRet.ext hv (by repeat (first | assumption | exact Ext.refl _ | refine Ext.alloc ?_ _ | refine Ext.drew ?_ | refine Ext.setB ?_ (by first | omega | (simp only [size_alloc, size_setB, size_drew]; omega)) _ | refine Ext.trans ?_ (by assumption)))⟩)
                  | (rw [undo_n (by unfold Entry.isA; omega) (by unfold Entry.isS; omega) (by omega) (by omega) (by omega)]; exact ⟨rfl, VRet.ext hv (by repeat (first | assumption | exact Ext.refl _ | refine Ext.alloc ?_ _ | refine Ext.drew ?_ | refine Ext.setB ?_ (by first | omega | (simp only [size_alloc, size_setB, size_drew]; omega)) _ | refine Ext.trans ?_ (by assumption)))⟩)
                  | (exfalso; omega)
                · have hb35p := hb35.h; simp only [al_ete, al_dfn, Bool.not_eq_true', Bool.not_eq_false', al_ne, Bool.not_not, al_nn] at hb35p
                  refine W_seq ?_
                  refine W_region rfl ?_
                  refine WO_p (PS_eql rfl rfl) ?_
                  refine WO_p (PS_assign_bool rfl) ?_
                  refine WO_nil ?_
                  refine thn_normal ?_
                  refine W_if rfl (fun hb38 => ?_) (fun hb38 => ?_)
                  · have hb38p := hb38.h; simp only [al_ete, al_dfn, Bool.not_eq_true', Bool.not_eq_false', al_ne, Bool.not_not, al_nn] at hb38p
                    refine W_region rfl ?_
                    refine WO_p (PS_move_ptr rfl) ?_
                    refine WO_p (PS_move_ptr rfl) ?_
                    refine WO_p (PS_nilCheck rfl) ?_
                    refine WO_p (PS_fieldAddr 8 Hvad.runUnderlying173 rfl Hvad.sizeOf4 rfl rfl) ?_
                    refine WO_load (.bool _) Hvad.isAgg4 rfl (Hb.h (by repeat (first | assumption | exact Hb.newY _ _ | refine Hb.alloc ?_ | refine Hb.drew ?_ | refine Hb.ext (by assumption) ?_ | exact Hb.setSameL (by first | omega | (simp only [size_alloc, size_setB, size_drew]; omega)) | exact Hb.setSame (by assumption) | refine Hb.set (by first | omega | (simp only [size_alloc, size_setB, size_drew]; omega)) ?_ ))) (Ce.h (by first | assumption | exact ⟨rfl⟩)) ?_
                    refine WO_p (PS_nilCheck rfl) ?_
                    refine WO_p (PS_fieldAddr 27 Hvad.runUnderlying149 rfl Hvad.sizeOf4 rfl rfl) ?_
                    have hv2 := hv.ext (Ext.drew (Ext.drew (Ext.refl _)))
                    have hr2 := hr.drew.drew
                    refine WO_store1 Hvad.sizeOf4 rfl (v := .bool _) rfl hr2.h rfl (by omega) rfl ?_
                    obtain ⟨hV, hS⟩ := hv2.wA_made hx hab hcap hr2 hrs hrow e.flag trivial
                    replace hS := VStep.pre (Ext.drew (Ext.drew (Ext.refl _))) hS
                    refine WO_nil ?_
                    refine inBlk_normal ?_
                    refine inBlk_normal ?_
                    refine thn_normal ?_
                    refine W_seq ?_
                    refine W_region rfl ?_
                    refine WO_p (PS_assign_bool rfl) ?_
                    refine WO_nil ?_
                    refine thn_normal ?_
                    refine W_ret ?_
                    refine bodyQ_ret1 Hvad.results268 rfl (.bool _) rfl ?_
                    first
                    | (rw [undo_0 (by omega) h0 hx]; exact ⟨rfl, _, _, hV, hS⟩)
                    | (rw [undo_1 (by omega) h0 hx]; exact ⟨rfl, _, _, hV, hS⟩)
                    | (rw [undo_2 (by omega) h0 hx]; exact ⟨rfl, _, _, hV, hS⟩)
                    | (rw [undo_4 (by omega) h0 hx]; exact ⟨rfl, _, _, hV, hS⟩)
                    | (rw [undo_9 (by omega) h0 hx]; exact ⟨rfl, _, _, hV, hS⟩)
                    | (rw [undo_10 (by omega) h0 hx]; exact ⟨rfl, _, _, hV, hS⟩)
                    | (rw [undo_3 (by omega) h0 hx]; exact ⟨rfl, _, _, hV, hS⟩)
                    | (rw [undo_5 (by omega) h0 hx]; exact ⟨rfl, _, _, hV, hS⟩)
                    | (rw [undo_8 (by omega) h0 hx]; exact ⟨rfl, _, _, hV, hS⟩)
                    | (rw [undo_6 (by omega)]; exact ⟨rfl, _, _, hV, hS⟩)
                    | (rw [undo_7 (by omega) (by omega)]; exact ⟨rfl, _, _, hV, hS⟩)
                    | (rw [undo_7n (by omega) (by omega)]; exact ⟨rfl, VRet.ext hv (by repeat (first | assumption | exact Ext.refl _ | refine Ext.alloc ?_ _ | refine Ext.drew ?_ | refine Ext.setB ?_ (by first | omega | (simp only [size_alloc, size_setB, size_drew]; omega)) _ | refine Ext.trans ?_ (by assumption)))⟩)
                    | (rw [undo_An (by unfold Entry.isA; omega) (by omega)]; exact ⟨rfl, VRet.ext hv (by repeat (first | assumption | exact Ext.refl _ | refine Ext.alloc ?_ _ | refine Ext.drew ?_ | refine Ext.setB ?_ (by first | omega | (simp only [size_alloc, size_setB, size_drew]; omega)) _ | refine Ext.trans ?_ (by assumption)))⟩)
                    | (rw [undo_Sn (by unfold Entry.isS; omega) (by omega)]; exact ⟨rfl, VRet.ext hv (by repeat (first | assumption | exact Ext.refl _ | refine Ext.alloc ?_ _ | refine Ext.drew ?_ | refine Ext.setB ?_ (by first | omega | (simp only [size_alloc, size_setB, size_drew]; omega)) _ | refine Ext.trans ?_ (by assumption)))⟩)
                    | (rw [undo_8n (by omega) (by omega)]; exact ⟨rfl, VRet.ext hv (by repeat (first | assumption | exact Ext.refl _ | refine Ext.alloc ?_ _ | refine Ext.drew ?_ | refine Ext.setB ?_ (by first | omega | (simp only [size_alloc, size_setB, size_drew]; omega)) _ | refine Ext.trans ?_ (by assumption)))⟩)
                    | (rw [undo_n (by unfold Entry.isA; omega) (by unfold Entry.isS; omega) (by omega) (by omega) (by omega)]; exact ⟨rfl, VRet.ext hv (by repeat (first | assumption | exact Ext.refl _ | refine Ext.alloc ?_ _ | refine Ext.drew ?_ | refine Ext.setB ?_ (by first | omega | (simp only [size_alloc, size_setB, size_drew]; omega)) _ | refine Ext.trans ?_ (by assumption)))⟩)
                    | (exfalso; omega)
                  · have hb38p := hb38.h; simp only [al_ete, al_dfn, Bool.not_eq_true', Bool.not_eq_false', al_ne, Bool.not_not, al_nn] at hb38p
                    refine W_seq ?_
                    refine W_region rfl ?_
                    refine WO_p (PS_eql rfl rfl) ?_
                    refine WO_p (PS_assign_bool rfl) ?_
                    refine WO_nil ?_
                    refine thn_normal ?_
                    refine W_if rfl (fun hb41 => ?_) (fun hb41 => ?_)
                    · have hb41p := hb41.h; simp only [al_ete, al_dfn, Bool.not_eq_true', Bool.not_eq_false', al_ne, Bool.not_not, al_nn] at hb41p
                      refine W_region rfl ?_
                      refine WO_p (PS_move_ptr rfl) ?_
                      refine WO_p (PS_move_ptr rfl) ?_
                      refine WO_p (PS_nilCheck rfl) ?_
                      refine WO_p (PS_fieldAddr 8 Hvad.runUnderlying173 rfl Hvad.sizeOf4 rfl rfl) ?_
                      refine WO_load (.bool _) Hvad.isAgg4 rfl (Hb.h (by repeat (first | assumption | exact Hb.newY _ _ | refine Hb.alloc ?_ | refine Hb.drew ?_ | refine Hb.ext (by assumption) ?_ | exact Hb.setSameL (by first | omega | (simp only [size_alloc, size_setB, size_drew]; omega)) | exact Hb.setSame (by assumption) | refine Hb.set (by first | omega | (simp only [size_alloc, size_setB, size_drew]; omega)) ?_ ))) (Ce.h (by first | assumption | exact ⟨rfl⟩)) ?_
                      refine WO_p (PS_nilCheck rfl) ?_
                      refine WO_p (PS_fieldAddr 28 Hvad.runUnderlying149 rfl Hvad.sizeOf4 rfl rfl) ?_
                      have hv2 := hv.ext (Ext.drew (Ext.drew (Ext.refl _)))
                      have hr2 := hr.drew.drew
                      refine WO_store1 Hvad.sizeOf4 rfl (v := .bool _) rfl hr2.h rfl (by omega) rfl ?_
                      obtain ⟨hV, hS⟩ := hv2.wA_gone hx hab hcap hr2 hrs hrow e.flag trivial
                      replace hS := VStep.pre (Ext.drew (Ext.drew (Ext.refl _))) hS
                      refine WO_nil ?_
                      refine inBlk_normal ?_
                      refine inBlk_normal ?_
                      refine thn_normal ?_
                      refine W_seq ?_
                      refine W_region rfl ?_
                      refine WO_p (PS_assign_bool rfl) ?_
                      refine WO_nil ?_
                      refine thn_normal ?_
                      refine W_ret ?_
                      refine bodyQ_ret1 Hvad.results268 rfl (.bool _) rfl ?_
                      first
                      | (rw [undo_0 (by omega) h0 hx]; exact ⟨rfl, _, _, hV, hS⟩)
                      | (rw [undo_1 (by omega) h0 hx]; exact ⟨rfl, _, _, hV, hS⟩)
                      | (rw [undo_2 (by omega) h0 hx]; exact ⟨rfl, _, _, hV, hS⟩)
                      | (rw [undo_4 (by omega) h0 hx]; exact ⟨rfl, _, _, hV, hS⟩)
                      | (rw [undo_9 (by omega) h0 hx]; exact ⟨rfl, _, _, hV, hS⟩)
                      | (rw [undo_10 (by omega) h0 hx]; exact ⟨rfl, _, _, hV, hS⟩)
                      | (rw [undo_3 (by omega) h0 hx]; exact ⟨rfl, _, _, hV, hS⟩)
                      | (rw [undo_5 (by omega) h0 hx]; exact ⟨rfl, _, _, hV, hS⟩)
                      | (rw [undo_8 (by omega) h0 hx]; exact ⟨rfl, _, _, hV, hS⟩)
                      | (rw [undo_6 (by omega)]; exact ⟨rfl, _, _, hV, hS⟩)
                      | (rw [undo_7 (by omega) (by omega)]; exact ⟨rfl, _, _, hV, hS⟩)
                      | (rw [undo_7n (by omega) (by omega)]; exact ⟨rfl, VRet.ext hv (by repeat (first | assumption | exact Ext.refl _ | refine Ext.alloc ?_ _ | refine Ext.drew ?_ | refine Ext.setB ?_ (by first | omega | (simp only [size_alloc, size_setB, size_drew]; omega)) _ | refine Ext.trans ?_ (by assumption)))⟩)
                      | (rw [undo_An (by unfold Entry.isA; omega) (by omega)]; exact ⟨rfl, VRet.ext hv (by repeat (first | assumption | exact Ext.refl _ | refine Ext.alloc ?_ _ | refine Ext.drew ?_ | refine Ext.setB ?_ (by first | omega | (simp only [size_alloc, size_setB, size_drew]; omega)) _ | refine Ext.trans ?_ (by assumption)))⟩)
                      | (rw [undo_Sn (by unfold Entry.isS; omega) (by omega)]; exact ⟨rfl, VRet.ext hv (by repeat (first | assumption | exact Ext.refl _ | refine Ext.alloc ?_ _ | refine Ext.drew ?_ | refine Ext.setB ?_ (by first | omega | (simp only [size_alloc, size_setB, size_drew]; omega)) _ | refine Ext.trans ?_ (by assumption)))⟩)
                      | (rw [undo_8n (by omega) (by omega)]; exact ⟨rfl, VRet.ext hv (by repeat (first | assumption | exact Ext.refl _ | refine Ext.alloc ?_ _ | refine Ext.drew ?_ | refine Ext.setB ?_ (by first | omega | (simp only [size_alloc, size_setB, size_drew]; omega)) _ | refine Ext.trans ?_ (by assumption)))⟩)
                      | (rw [undo_n (by unfold Entry.isA; omega) (by unfold Entry.isS; omega) (by omega) (by omega) (by omega)]; exact ⟨rfl, VRet.ext hv (by repeat (first | assumption | exact Ext.refl _ | refine Ext.alloc ?_ _ | refine Ext.drew ?_ | refine Ext.setB ?_ (by first | omega | (simp only [size_alloc, size_setB, size_drew]; omega)) _ | refine Ext.trans ?_ (by assumption)))⟩)
                      | (exfalso; omega)
                    · have hb41p := hb41.h; simp only [al_ete, al_dfn, Bool.not_eq_true', Bool.not_eq_false', al_ne, Bool.not_not, al_nn] at hb41p
                      refine W_skip ?_
                      refine inBlk_normal ?_
                      refine inBlk_normal ?_
                      refine thn_normal ?_
                      refine W_seq ?_
                      refine W_region rfl ?_
                      refine WO_p (PS_assign_bool rfl) ?_
                      refine WO_nil ?_
                      refine thn_normal ?_
                      refine W_ret ?_
                      refine bodyQ_ret1 Hvad.results268 rfl (.bool _) rfl ?_
                      first
                      | (rw [undo_0 (by omega) h0 hx]; exact ⟨rfl, _, _, hV, hS⟩)
                      | (rw [undo_1 (by omega) h0 hx]; exact ⟨rfl, _, _, hV, hS⟩)
                      | (rw [undo_2 (by omega) h0 hx]; exact ⟨rfl, _, _, hV, hS⟩)
                      | (rw [undo_4 (by omega) h0 hx]; exact ⟨rfl, _, _, hV, hS⟩)
                      | (rw [undo_9 (by omega) h0 hx]; exact ⟨rfl, _, _, hV, hS⟩)
                      | (rw [undo_10 (by omega) h0 hx]; exact ⟨rfl, _, _, hV, hS⟩)
                      | (rw [undo_3 (by omega) h0 hx]; exact ⟨rfl, _, _, hV, hS⟩)
                      | (rw [undo_5 (by omega) h0 hx]; exact ⟨rfl, _, _, hV, hS⟩)
                      | (rw [undo_8 (by omega) h0 hx]; exact ⟨rfl, _, _, hV, hS⟩)
                      | (rw [undo_6 (by omega)]; exact ⟨rfl, _, _, hV, hS⟩)
                      | (rw [undo_7 (by omega) (by omega)]; exact ⟨rfl, _, _, hV, hS⟩)
                      | (rw [undo_7n (by omega) (by omega)]; exact ⟨rfl, VRet.ext hv (by repeat (first | assumption | exact Ext.refl _ | refine Ext.alloc ?_ _ | refine Ext.drew ?_ | refine Ext.setB ?_ (by first | omega | (simp only [size_alloc, size_setB, size_drew]; omega)) _ | refine Ext.trans ?_ (by assumption)))⟩)
                      | (rw [undo_An (by unfold Entry.isA; omega) (by omega)]; exact ⟨rfl, VRet.ext hv (by repeat (first | assumption | exact Ext.refl _ | refine Ext.alloc ?_ _ | refine Ext.drew ?_ | refine Ext.setB ?_ (by first | omega | (simp only [size_alloc, size_setB, size_drew]; omega)) _ | refine Ext.trans ?_ (by assumption)))⟩)
                      | (rw [undo_Sn (by unfold Entry.isS; omega) (by omega)]; exact ⟨rfl, VRet.ext hv (by repeat (first | assumption | exact Ext.refl _ | refine Ext.alloc ?_ _ | refine Ext.drew ?_ | refine Ext.setB ?_ (by first | omega | (simp only [size_alloc, size_setB, size_drew]; omega)) _ | refine Ext.trans ?_ (by assumption)))⟩)
                      | (rw [undo_8n (by omega) (by omega)]; exact ⟨rfl, VRet.ext hv (by repeat (first | assumption | exact Ext.refl _ | refine Ext.alloc ?_ _ | refine Ext.drew ?_ | refine Ext.setB ?_ (by first | omega | (simp only [size_alloc, size_setB, size_drew]; omega)) _ | refine Ext.trans ?_ (by assumption)))⟩)
                      | (rw [undo_n (by unfold Entry.isA; omega) (by unfold Entry.isS; omega) (by omega) (by omega) (by omega)]; exact ⟨rfl, VRet.ext hv (by repeat (first | assumption | exact Ext.refl _ | refine Ext.alloc ?_ _ | refine Ext.drew ?_ | refine Ext.setB ?_ (by first | omega | (simp only [size_alloc, size_setB, size_drew]; omega)) _ | refine Ext.trans ?_ (by assumption)))⟩)
                      | (exfalso; omega)
    · have hb23p := hb23.h; simp only [al_ete, al_dfn, Bool.not_eq_true', Bool.not_eq_false', al_ne, Bool.not_not, al_nn] at hb23p
      refine W_seq ?_
      refine W_region rfl ?_
      refine WO_p (PS_eql rfl rfl) ?_
      refine WO_p (PS_assign_bool rfl) ?_
      refine WO_nil ?_
      refine thn_normal ?_
      refine W_if rfl (fun hb44 => ?_) (fun hb44 => ?_)
      · have hb44p := hb44.h; simp only [al_ete, al_dfn, Bool.not_eq_true', Bool.not_eq_false', al_ne, Bool.not_not, al_nn] at hb44p
        refine W_skip ?_
        refine thn_normal ?_
        refine W_condT rfl hb44.h ?_
        refine W_seq ?_
        refine W_seq ?_
        refine W_drawE [false, false, false, false, false, false, false, false, false, false, false, false, false, false, false, false, false, false] hmix (by kernel_rfl) rfl ?_
        refine WH_p (PS_move_ptr rfl) rfl ?_
        refine WH_p (PS_nilCheck rfl) rfl ?_
        refine WH_p (PS_fieldAddr 1 Hvad.runUnderlying173 rfl Hvad.sizeOf21 rfl rfl) rfl ?_
        refine WH_load (.int _ _) Hvad.isAgg21 rfl (Hb.h (by repeat (first | assumption | exact Hb.newY _ _ | refine Hb.alloc ?_ | refine Hb.drew ?_ | refine Hb.ext (by assumption) ?_ | exact Hb.setSameL (by first | omega | (simp only [size_alloc, size_setB, size_drew]; omega)) | exact Hb.setSame (by assumption) | refine Hb.set (by first | omega | (simp only [size_alloc, size_setB, size_drew]; omega)) ?_ ))) (Ce.h (by first | assumption | exact ⟨rfl⟩)) ?_
        refine WH_p (PS_lss rfl rfl) rfl ?_
        refine WH_p (PS_move_bool rfl) rfl ?_
        refine WH_if (t := 22) rfl (fun hb46 => ?_) (fun hb46 => ?_)
        · have hb46p := hb46.h; simp only [al_ete, al_dfn, Bool.not_eq_true', Bool.not_eq_false', al_ne, Bool.not_not, al_nn] at hb46p
          refine WH_guardF rfl rfl hb46.h ?_
          refine WH_guardF rfl rfl hb46.h ?_
          refine WH_guardF rfl rfl hb46.h ?_
          refine WH_guardF rfl rfl hb46.h ?_
          refine WH_guardF rfl rfl hb46.h ?_
          refine WH_guardF rfl rfl hb46.h ?_
          refine WH_guardF rfl rfl hb46.h ?_
          refine WH_guardF rfl rfl hb46.h ?_
          refine WH_guardF rfl rfl hb46.h ?_
          refine WH_guardF rfl rfl hb46.h ?_
          refine WH_guardF rfl rfl hb46.h ?_
          refine WH_p (PS_pickT rfl hb46.h rfl) rfl ?_
          refine WH_nil ?_
          refine thn_normal ?_
          refine W_condT rfl rfl ?_
          refine W_seq ?_
          refine W_region rfl ?_
          refine WO_p (PS_assign_bool rfl) ?_
          refine WO_nil ?_
          refine thn_normal ?_
          refine W_ret ?_
          refine thn_ret ?_
          refine inBlk_ret ?_
          refine thn_ret ?_
          refine bodyQ_ret1 Hvad.results268 rfl (.bool _) rfl ?_
          first
          | (rw [undo_0 (by omega) h0 hx]; exact ⟨rfl, _, _, hV, hS⟩)
          | (rw [undo_1 (by omega) h0 hx]; exact ⟨rfl, _, _, hV, hS⟩)
          | (rw [undo_2 (by omega) h0 hx]; exact ⟨rfl, _, _, hV, hS⟩)
          | (rw [undo_4 (by omega) h0 hx]; exact ⟨rfl, _, _, hV, hS⟩)
          | (rw [undo_9 (by omega) h0 hx]; exact ⟨rfl, _, _, hV, hS⟩)
          | (rw [undo_10 (by omega) h0 hx]; exact ⟨rfl, _, _, hV, hS⟩)
          | (rw [undo_3 (by omega) h0 hx]; exact ⟨rfl, _, _, hV, hS⟩)
          | (rw [undo_5 (by omega) h0 hx]; exact ⟨rfl, _, _, hV, hS⟩)
          | (rw [undo_8 (by omega) h0 hx]; exact ⟨rfl, _, _, hV, hS⟩)
          | (rw [undo_6 (by omega)]; exact ⟨rfl, _, _, hV, hS⟩)
          | (rw [undo_7 (by omega) (by omega)]; exact ⟨rfl, _, _, hV, hS⟩)
          | (rw [undo_7n (by omega) (by omega)]; exact ⟨rfl, VRet.ext hv (by repeat (first | assumption | exact Ext.refl _ | refine Ext.alloc ?_ _ | refine Ext.drew ?_ | refine Ext.setB ?_ (by first | omega | (simp only [size_alloc, size_setB, size_drew]; omega)) _ | refine Ext.trans ?_ (by assumption)))⟩)
          | (rw [undo_An (by unfold Entry.isA; omega) (by omega)]; exact ⟨rfl, VRet.ext hv (by repeat (first | assumption | exact Ext.refl _ | refine Ext.alloc ?_ _ | refine Ext.drew ?_ | refine Ext.setB ?_ (by first | omega | (simp only [size_alloc, size_setB, size_drew]; omega)) _ | refine Ext.trans ?_ (by assumption)))⟩)
          | (rw [undo_Sn (by unfold Entry.isS; omega) (by omega)]; exact ⟨rfl, VRet.ext hv (by repeat (first | assumption | exact Ext.refl _ | refine Ext.alloc ?_ _ | refine Ext.drew ?_ | refine Ext.setB ?_ (by first | omega | (simp only [size_alloc, size_setB, size_drew]; omega)) _ | refine Ext.trans ?_ (by assumption)))⟩)
          | (rw [undo_8n (by omega) (by omega)]; exact ⟨rfl, VRet.ext hv (by repeat (first | assumption | exact Ext.refl _ | refine Ext.alloc ?_ _ | refine Ext.drew ?_ | refine Ext.setB ?_ (by first | omega | (simp only [size_alloc, size_setB, size_drew]; omega)) _ | refine Ext.trans ?_ (by assumption)))⟩)
          | (rw [undo_n (by unfold Entry.isA; omega) (by unfold Entry.isS; omega) (by omega) (by omega) (by omega)]; exact ⟨rfl, VRet.ext hv (by repeat (first | assumption | exact Ext.refl _ | refine Ext.alloc ?_ _ | refine Ext.drew ?_ | refine Ext.setB ?_ (by first | omega | (simp only [size_alloc, size_setB, size_drew]; omega)) _ | refine Ext.trans ?_ (by assumption)))⟩)
          | (exfalso; omega)
        · have hb46p := hb46.h; simp only [al_ete, al_dfn, Bool.not_eq_true', Bool.not_eq_false', al_ne, Bool.not_not, al_nn] at hb46p
          refine WH_guardT rfl rfl hb46.h ?_
          refine WH_p (PS_move_ptr rfl) rfl ?_
          refine WH_guardT rfl rfl hb46.h ?_
          refine WH_p (PS_nilCheck rfl) rfl ?_
          refine WH_guardT rfl rfl hb46.h ?_
          refine WH_p (PS_fieldAddr 1 Hvad.runUnderlying173 rfl Hvad.sizeOf21 rfl rfl) rfl ?_
          refine WH_guardT rfl rfl hb46.h ?_
          refine WH_load (.int _ _) Hvad.isAgg21 rfl (Hb.h (by repeat (first | assumption | exact Hb.newY _ _ | refine Hb.alloc ?_ | refine Hb.drew ?_ | refine Hb.ext (by assumption) ?_ | exact Hb.setSameL (by first | omega | (simp only [size_alloc, size_setB, size_drew]; omega)) | exact Hb.setSame (by assumption) | refine Hb.set (by first | omega | (simp only [size_alloc, size_setB, size_drew]; omega)) ?_ ))) (Ce.h (by first | assumption | exact ⟨rfl⟩)) ?_
          refine WH_guardT rfl rfl hb46.h ?_
          refine WH_p (PS_conv_i64n Hvad.runUnderlying21 Hvad.runUnderlying3 rfl (by omega) (by omega)) rfl ?_
          refine WH_guardT rfl rfl hb46.h ?_
          refine WH_p (PS_move_ptr rfl) rfl ?_
          refine WH_guardT rfl rfl hb46.h ?_
          refine WH_p (PS_nilCheck rfl) rfl ?_
          refine WH_guardT rfl rfl hb46.h ?_
          refine WH_p (PS_fieldAddr 0 Hvad.runUnderlying79 rfl Hvad.sizeOf70 rfl rfl) rfl ?_
          refine WH_guardT rfl rfl hb46.h ?_
          refine WH_load (.slice _ _ _) Hvad.isAgg70 rfl (Hb.h (by repeat (first | assumption | exact Hb.newY _ _ | refine Hb.alloc ?_ | refine Hb.drew ?_ | refine Hb.ext (by assumption) ?_ | exact Hb.setSameL (by first | omega | (simp only [size_alloc, size_setB, size_drew]; omega)) | exact Hb.setSame (by assumption) | refine Hb.set (by first | omega | (simp only [size_alloc, size_setB, size_drew]; omega)) ?_ ))) (Ce.h (by first | assumption | exact ⟨rfl⟩)) ?_
          refine WH_guardT rfl rfl hb46.h ?_
          refine WH_p (PS_lenS Hvad.runUnderlying70 rfl) rfl ?_
          refine WH_guardT rfl rfl hb46.h ?_
          refine WH_p (PS_geq rfl rfl) rfl ?_
          refine WH_p (PS_pickF rfl hb46.h rfl) rfl ?_
          refine WH_nil ?_
          refine thn_normal ?_
          refine W_if rfl (fun hb48 => ?_) (fun hb48 => ?_)
          · have hb48p := hb48.h; simp only [al_ete, al_dfn, Bool.not_eq_true', Bool.not_eq_false', al_ne, Bool.not_not, al_nn] at hb48p
            refine W_seq ?_
            refine W_region rfl ?_
            refine WO_p (PS_assign_bool rfl) ?_
            refine WO_nil ?_
            refine thn_normal ?_
            refine W_ret ?_
            refine thn_ret ?_
            refine inBlk_ret ?_
            refine thn_ret ?_
            refine bodyQ_ret1 Hvad.results268 rfl (.bool _) rfl ?_
            first
            | (rw [undo_0 (by omega) h0 hx]; exact ⟨rfl, _, _, hV, hS⟩)
            | (rw [undo_1 (by omega) h0 hx]; exact ⟨rfl, _, _, hV, hS⟩)
            | (rw [undo_2 (by omega) h0 hx]; exact ⟨rfl, _, _, hV, hS⟩)
            | (rw [undo_4 (by omega) h0 hx]; exact ⟨rfl, _, _, hV, hS⟩)
            | (rw [undo_9 (by omega) h0 hx]; exact ⟨rfl, _, _, hV, hS⟩)
            | (rw [undo_10 (by omega) h0 hx]; exact ⟨rfl, _, _, hV, hS⟩)
            | (rw [undo_3 (by omega) h0 hx]; exact ⟨rfl, _, _, hV, hS⟩)
            | (rw [undo_5 (by omega) h0 hx]; exact ⟨rfl, _, _, hV, hS⟩)
            | (rw [undo_8 (by omega) h0 hx]; exact ⟨rfl, _, _, hV, hS⟩)
            | (rw [undo_6 (by omega)]; exact ⟨rfl, _, _, hV, hS⟩)
            | (rw [undo_7 (by omega) (by omega)]; exact ⟨rfl, _, _, hV, hS⟩)
            | (rw [undo_7n (by omega) (by omega)]; exact ⟨rfl, VRet.ext hv (by repeat (first | assumption | exact Ext.refl _ | refine Ext.alloc ?_ _ | refine Ext.drew ?_ | refine Ext.setB ?_ (by first | omega | (simp only [size_alloc, size_setB, size_drew]; omega)) _ | refine Ext.trans ?_ (by assumption)))⟩)
            | (rw [undo_An (by unfold Entry.isA; omega) (by omega)]; exact ⟨rfl, VRet.ext hv (by repeat (first | assumption | exact Ext.refl _ | refine Ext.alloc ?_ _ | refine Ext.drew ?_ | refine Ext.setB ?_ (by first | omega | (simp only [size_alloc, size_setB, size_drew]; omega)) _ | refine Ext.trans ?_ (by assumption)))⟩)
            | (rw [undo_Sn (by unfold Entry.isS; omega) (by omega)]; exact ⟨rfl, VRet.ext hv (by repeat (first | assumption | exact Ext.refl _ | refine Ext.alloc ?_ _ | refine Ext.drew ?_ | refine Ext.setB ?_ (by first | omega | (simp only [size_alloc, size_setB, size_drew]; omega)) _ | refine Ext.trans ?_ (by assumption)))⟩)
            | (rw [undo_8n (by omega) (by omega)]; exact ⟨rfl, VRet.ext hv (by repeat (first | assumption | exact Ext.refl _ | refine Ext.alloc ?_ _ | refine Ext.drew ?_ | refine Ext.setB ?_ (by first | omega | (simp only [size_alloc, size_setB, size_drew]; omega)) _ | refine Ext.trans ?_ (by assumption)))⟩)
            | (rw [undo_n (by unfold Entry.isA; omega) (by unfold Entry.isS; omega) (by omega) (by omega) (by omega)]; exact ⟨rfl, VRet.ext hv (by repeat (first | assumption | exact Ext.refl _ | refine Ext.alloc ?_ _ | refine Ext.drew ?_ | refine Ext.setB ?_ (by first | omega | (simp only [size_alloc, size_setB, size_drew]; omega)) _ | refine Ext.trans ?_ (by assumption)))⟩)
            | (exfalso; omega)
          · have hb48p := hb48.h; simp only [al_ete, al_dfn, Bool.not_eq_true', Bool.not_eq_false', al_ne, Bool.not_not, al_nn] at hb48p
            have h0 : 0 ≤ e.at_ := by omega
            obtain ⟨x, hx⟩ : ∃ x, v.accts[e.at_.toNat]? = some x := ⟨_, List.getElem?_eq_getElem (by omega)⟩
            clear hda
            obtain ⟨b, cap, r, hab, hcap, hr, hrs, hrow, hda, hbd, hil, hty, f0, f1, f2, f3, f4, f5, f6⟩ := hv.openA hx
            refine W_skip ?_
            refine thn_normal ?_
            refine W_seq ?_
            refine W_drawE [false, false, false, false, false, false, false, false, false, false] hmix (by kernel_rfl) rfl ?_
            refine WH_p (PS_move_ptr rfl) rfl ?_
            refine WH_p (PS_nilCheck rfl) rfl ?_
            refine WH_p (PS_fieldAddr 0 Hvad.runUnderlying79 rfl Hvad.sizeOf70 rfl rfl) rfl ?_
            refine WH_load (.slice _ _ _) Hvad.isAgg70 rfl (Hb.h (by repeat (first | assumption | exact Hb.newY _ _ | refine Hb.alloc ?_ | refine Hb.drew ?_ | refine Hb.ext (by assumption) ?_ | exact Hb.setSameL (by first | omega | (simp only [size_alloc, size_setB, size_drew]; omega)) | exact Hb.setSame (by assumption) | refine Hb.set (by first | omega | (simp only [size_alloc, size_setB, size_drew]; omega)) ?_ ))) (Ce.h (by first | assumption | exact ⟨rfl⟩)) ?_
            refine WH_p (PS_move_ptr rfl) rfl ?_
            refine WH_p (PS_nilCheck rfl) rfl ?_
            refine WH_p (PS_fieldAddr 1 Hvad.runUnderlying173 rfl Hvad.sizeOf21 rfl rfl) rfl ?_
            refine WH_load (.int _ _) Hvad.isAgg21 rfl (Hb.h (by repeat (first | assumption | exact Hb.newY _ _ | refine Hb.alloc ?_ | refine Hb.drew ?_ | refine Hb.ext (by assumption) ?_ | exact Hb.setSameL (by first | omega | (simp only [size_alloc, size_setB, size_drew]; omega)) | exact Hb.setSame (by assumption) | refine Hb.set (by first | omega | (simp only [size_alloc, size_setB, size_drew]; omega)) ?_ ))) (Ce.h (by first | assumption | exact ⟨rfl⟩)) ?_
            refine WH_p (PS_indexS Hvad.runUnderlying70 Hvad.sizeOf149 rfl rfl (by omega) (by omega)) rfl ?_
            refine WH_p (PS_assign_ptr rfl) rfl ?_
            refine WH_nil ?_
            refine thn_normal ?_
            refine W_seq ?_
            refine W_region rfl ?_
            refine WO_p (PS_move_ptr rfl) ?_
            refine WO_p (PS_nilCheck rfl) ?_
            refine WO_p (PS_fieldAddr 0 Hvad.runUnderlying173 rfl Hvad.sizeOf5 rfl rfl) ?_
            refine WO_load (.int _ _) Hvad.isAgg5 rfl (Hb.h (by repeat (first | assumption | exact Hb.newY _ _ | refine Hb.alloc ?_ | refine Hb.drew ?_ | refine Hb.ext (by assumption) ?_ | exact Hb.setSameL (by first | omega | (simp only [size_alloc, size_setB, size_drew]; omega)) | exact Hb.setSame (by assumption) | refine Hb.set (by first | omega | (simp only [size_alloc, size_setB, size_drew]; omega)) ?_ ))) (Ce.h (by first | assumption | exact ⟨rfl⟩)) ?_
            refine WO_nil ?_
            refine thn_normal ?_
            refine W_block ?_
            refine W_seq ?_
            refine W_region rfl ?_
            refine WO_p (PS_eql rfl rfl) ?_
            refine WO_p (PS_assign_bool rfl) ?_
            refine WO_nil ?_
            refine thn_normal ?_
            refine W_if rfl (fun hb50 => ?_) (fun hb50 => ?_)
            · have hb50p := hb50.h; simp only [al_ete, al_dfn, Bool.not_eq_true', Bool.not_eq_false', al_ne, Bool.not_not, al_nn] at hb50p
              refine W_region rfl ?_
              refine WO_p (PS_move_ptr rfl) ?_
              refine WO_p (PS_move_ptr rfl) ?_
              refine WO_p (PS_nilCheck rfl) ?_
              refine WO_p (PS_fieldAddr 3 Hvad.runUnderlying173 rfl Hvad.sizeOf59 rfl rfl) ?_
              refine WO_loadA _ Hvad.isAgg59 Hvad.sizeOf59 rfl (Hb.h (by repeat (first | assumption | exact Hb.newY _ _ | refine Hb.alloc ?_ | refine Hb.drew ?_ | refine Hb.ext (by assumption) ?_ | exact Hb.setSameL (by first | omega | (simp only [size_alloc, size_setB, size_drew]; omega)) | exact Hb.setSame (by assumption) | refine Hb.set (by first | omega | (simp only [size_alloc, size_setB, size_drew]; omega)) ?_ ))) (by first | omega | assumption | rfl | decide | (simp only [size_ic, Value.cells]; omega) | simp) (Xt.h (by first | assumption | exact Xt.whole rfl rfl | exact Xt.whole rfl (by simp only [size_ic, Value.cells]; omega) | exact ⟨rfl⟩)) ?_
              refine WO_p (PS_nilCheck rfl) ?_
              refine WO_p (PS_fieldAddr 21 Hvad.runUnderlying149 rfl Hvad.sizeOf59 rfl rfl) ?_
              have hv2 := hv.ext (Ext.drew (Ext.drew (Ext.refl _)))
              have hr2 := hr.drew.drew
              refine WO_store Hvad.sizeOf59 rfl (v := .agg (ic .u64 e.w)) rfl hr2.h (by first | omega | assumption | rfl | decide | (simp only [size_ic, Value.cells]; omega) | simp) (by omega) (by first | exact oneCell_ic | assumption) ?_
              obtain ⟨hV, hS⟩ := hv2.wA_bal hx hab hcap hr2 hrs hrow e.w htj.2.2.2
              replace hS := VStep.pre (Ext.drew (Ext.drew (Ext.refl _))) hS
              refine WO_nil ?_
              refine inBlk_normal ?_
              refine inBlk_normal ?_
              refine thn_normal ?_
              refine W_seq ?_
              refine W_region rfl ?_
              refine WO_p (PS_assign_bool rfl) ?_
              refine WO_nil ?_
              refine thn_normal ?_
              refine W_ret ?_
              refine bodyQ_ret1 Hvad.results268 rfl (.bool _) rfl ?_
              first
              | (rw [undo_0 (by omega) h0 hx]; exact ⟨rfl, _, _, hV, hS⟩)
              | (rw [undo_1 (by omega) h0 hx]; exact ⟨rfl, _, _, hV, hS⟩)
              | (rw [undo_2 (by omega) h0 hx]; exact ⟨rfl, _, _, hV, hS⟩)
              | (rw [undo_4 (by omega) h0 hx]; exact ⟨rfl, _, _, hV, hS⟩)
              | (rw [undo_9 (by omega) h0 hx]; exact ⟨rfl, _, _, hV, hS⟩)
              | (rw [undo_10 (by omega) h0 hx]; exact ⟨rfl, _, _, hV, hS⟩)
              | (rw [undo_3 (by omega) h0 hx]; exact ⟨rfl, _, _, hV, hS⟩)
              | (rw [undo_5 (by omega) h0 hx]; exact ⟨rfl, _, _, hV, hS⟩)
              | (rw [undo_8 (by omega) h0 hx]; exact ⟨rfl, _, _, hV, hS⟩)
              | (rw [undo_6 (by omega)]; exact ⟨rfl, _, _, hV, hS⟩)
              | (rw [undo_7 (by omega) (by omega)]; exact ⟨rfl, _, _, hV, hS⟩)
              | (rw [undo_7n (by omega) (by omega)]; exact ⟨rfl, VRet.ext hv (by repeat (first | assumption | exact Ext.refl _ | refine Ext.alloc ?_ _ | refine Ext.drew ?_ | refine Ext.setB ?_ (by first | omega | (simp only [size_alloc, size_setB, size_drew]; omega)) _ | refine Ext.trans ?_ (by assumption)))⟩)
              | (rw [undo_An (by unfold Entry.isA; omega) (by omega)]; exact ⟨rfl, VRet.ext hv (by repeat (first | assumption | exact Ext.refl _ | refine Ext.alloc ?_ _ | refine Ext.drew ?_ | refine Ext.setB ?_ (by first | omega | (simp only [size_alloc, size_setB, size_drew]; omega)) _ | refine Ext.trans ?_ (by assumption)))⟩)
              | (rw [undo_Sn (by unfold Entry.isS; omega) (by omega)]; exact ⟨rfl, VRet.ext hv (by repeat (first | assumption | exact Ext.refl _ | refine Ext.alloc ?_ _ | refine Ext.drew ?_ | refine Ext.setB ?_ (by first | omega | (simp only [size_alloc, size_setB, size_drew]; omega)) _ | refine Ext.trans ?_ (by assumption)))⟩)
              | (rw [undo_8n (by omega) (by omega)]; exact ⟨rfl, VRet.ext hv (by repeat (first | assumption | exact Ext.refl _ | refine Ext.alloc ?_ _ | refine Ext.drew ?_ | refine Ext.setB ?_ (by first | omega | (simp only [size_alloc, size_setB, size_drew]; omega)) _ | refine Ext.trans ?_ (by assumption)))⟩)
              | (rw [undo_n (by unfold Entry.isA; omega) (by unfold Entry.isS; omega) (by omega) (by omega) (by omega)]; exact ⟨rfl, VRet.ext hv (by repeat (first | assumption | exact Ext.refl _ | refine Ext.alloc ?_ _ | refine Ext.drew ?_ | refine Ext.setB ?_ (by first | omega | (simp only [size_alloc, size_setB, size_drew]; omega)) _ | refine Ext.trans ?_ (by assumption)))⟩)
              | (exfalso; omega)
            · have hb50p := hb50.h; simp only [al_ete, al_dfn, Bool.not_eq_true', Bool.not_eq_false', al_ne, Bool.not_not, al_nn] at hb50p
              refine W_seq ?_
              refine W_region rfl ?_
              refine WO_p (PS_eql rfl rfl) ?_
              refine WO_p (PS_assign_bool rfl) ?_
              refine WO_nil ?_
              refine thn_normal ?_
              refine W_if rfl (fun hb52 => ?_) (fun hb52 => ?_)
              · have hb52p := hb52.h; simp only [al_ete, al_dfn, Bool.not_eq_true', Bool.not_eq_false', al_ne, Bool.not_not, al_nn] at hb52p
                refine W_region rfl ?_
                refine WO_p (PS_move_ptr rfl) ?_
                refine WO_p (PS_move_ptr rfl) ?_
                refine WO_p (PS_nilCheck rfl) ?_
                refine WO_p (PS_fieldAddr 2 Hvad.runUnderlying173 rfl Hvad.sizeOf26 rfl rfl) ?_
                refine WO_load (.int _ _) Hvad.isAgg26 rfl (Hb.h (by repeat (first | assumption | exact Hb.newY _ _ | refine Hb.alloc ?_ | refine Hb.drew ?_ | refine Hb.ext (by assumption) ?_ | exact Hb.setSameL (by first | omega | (simp only [size_alloc, size_setB, size_drew]; omega)) | exact Hb.setSame (by assumption) | refine Hb.set (by first | omega | (simp only [size_alloc, size_setB, size_drew]; omega)) ?_ ))) (Ce.h (by first | assumption | exact ⟨rfl⟩)) ?_
                refine WO_p (PS_nilCheck rfl) ?_
                refine WO_p (PS_fieldAddr 20 Hvad.runUnderlying149 rfl Hvad.sizeOf26 rfl rfl) ?_
                have hv2 := hv.ext (Ext.drew (Ext.drew (Ext.refl _)))
                have hr2 := hr.drew.drew
                refine WO_store1 Hvad.sizeOf26 rfl (v := .int _ _) rfl hr2.h rfl (by omega) rfl ?_
                obtain ⟨hV, hS⟩ := hv2.wA_nonce hx hab hcap hr2 hrs hrow e.n htj.2.2.1
                replace hS := VStep.pre (Ext.drew (Ext.drew (Ext.refl _))) hS
                refine WO_nil ?_
                refine inBlk_normal ?_
                refine inBlk_normal ?_
                refine thn_normal ?_
                refine W_seq ?_
                refine W_region rfl ?_
                refine WO_p (PS_assign_bool rfl) ?_
                refine WO_nil ?_
                refine thn_normal ?_
                refine W_ret ?_
                refine bodyQ_ret1 Hvad.results268 rfl (.bool _) rfl ?_
                first
                | (rw [undo_0 (by omega) h0 hx]; exact ⟨rfl, _, _, hV, hS⟩)
                | (rw [undo_1 (by omega) h0 hx]; exact ⟨rfl, _, _, hV, hS⟩)
                | (rw [undo_2 (by omega) h0 hx]; exact ⟨rfl, _, _, hV, hS⟩)
                | (rw [undo_4 (by omega) h0 hx]; exact ⟨rfl, _, _, hV, hS⟩)
                | (rw [undo_9 (by omega) h0 hx]; exact ⟨rfl, _, _, hV, hS⟩)
                | (rw [undo_10 (by omega) h0 hx]; exact ⟨rfl, _, _, hV, hS⟩)
                | (rw [undo_3 (by omega) h0 hx]; exact ⟨rfl, _, _, hV, hS⟩)
                | (rw [undo_5 (by omega) h0 hx]; exact ⟨rfl, _, _, hV, hS⟩)
                | (rw [undo_8 (by omega) h0 hx]; exact ⟨rfl, _, _, hV, hS⟩)
                | (rw [undo_6 (by omega)]; exact ⟨rfl, _, _, hV, hS⟩)
                | (rw [undo_7 (by omega) (by omega)]; exact ⟨rfl, _, _, hV, hS⟩)
                | (rw [undo_7n (by omega) (by omega)]; exact ⟨rfl, VRet.ext hv (by repeat (first | assumption | exact Ext.refl _ | refine Ext.alloc ?_ _ | refine Ext.drew ?_ | refine Ext.setB ?_ (by first | omega | (simp only [size_alloc, size_setB, size_drew]; omega)) _ | refine Ext.trans ?_ (by assumption)))⟩)
                | (rw [undo_An (by unfold Entry.isA; omega) (by omega)]; exact ⟨rfl, VRet.ext hv (by repeat (first | assumption | exact Ext.refl _ | refine Ext.alloc ?_ _ | refine Ext.drew ?_ | refine Ext.setB ?_ (by first | omega | (simp only [size_alloc, size_setB, size_drew]; omega)) _ | refine Ext.trans ?_ (by assumption)))⟩)
                | (rw [undo_Sn (by unfold Entry.isS; omega) (by omega)]; exact ⟨rfl, VRet.ext hv (by repeat (first | assumption | exact Ext.refl _ | refine Ext.alloc ?_ _ | refine Ext.drew ?_ | refine Ext.setB ?_ (by first | omega | (simp only [size_alloc, size_setB, size_drew]; omega)) _ | refine Ext.trans ?_ (by assumption)))⟩)
                | (rw [undo_8n (by omega) (by omega)]; exact ⟨rfl, VRet.ext hv (by repeat (first | assumption | exact Ext.refl _ | refine Ext.alloc ?_ _ | refine Ext.drew ?_ | refine Ext.setB ?_ (by first | omega | (simp only [size_alloc, size_setB, size_drew]; omega)) _ | refine Ext.trans ?_ (by assumption)))⟩)
                | (rw [undo_n (by unfold Entry.isA; omega) (by unfold Entry.isS; omega) (by omega) (by omega) (by omega)]; exact ⟨rfl, VRet.ext hv (by repeat (first | assumption | exact Ext.refl _ | refine Ext.alloc ?_ _ | refine Ext.drew ?_ | refine Ext.setB ?_ (by first | omega | (simp only [size_alloc, size_setB, size_drew]; omega)) _ | refine Ext.trans ?_ (by assumption)))⟩)
                | (exfalso; omega)
              · have hb52p := hb52.h; simp only [al_ete, al_dfn, Bool.not_eq_true', Bool.not_eq_false', al_ne, Bool.not_not, al_nn] at hb52p
                refine W_seq ?_
                refine W_region rfl ?_
                refine WO_p (PS_eql rfl rfl) ?_
                refine WO_p (PS_assign_bool rfl) ?_
                refine WO_nil ?_
                refine thn_normal ?_
                refine W_if rfl (fun hb54 => ?_) (fun hb54 => ?_)
                · have hb54p := hb54.h; simp only [al_ete, al_dfn, Bool.not_eq_true', Bool.not_eq_false', al_ne, Bool.not_not, al_nn] at hb54p
                  refine W_region rfl ?_
                  refine WO_p (PS_move_ptr rfl) ?_
                  refine WO_p (PS_move_ptr rfl) ?_
                  refine WO_p (PS_nilCheck rfl) ?_
                  refine WO_p (PS_fieldAddr 7 Hvad.runUnderlying173 rfl Hvad.sizeOf32 rfl rfl) ?_
                  refine WO_load (.slice _ _ _) Hvad.isAgg32 rfl (Hb.h (by repeat (first | assumption | exact Hb.newY _ _ | refine Hb.alloc ?_ | refine Hb.drew ?_ | refine Hb.ext (by assumption) ?_ | exact Hb.setSameL (by first | omega | (simp only [size_alloc, size_setB, size_drew]; omega)) | exact Hb.setSame (by assumption) | refine Hb.set (by first | omega | (simp only [size_alloc, size_setB, size_drew]; omega)) ?_ ))) (Ce.h (by first | assumption | exact ⟨rfl⟩)) ?_
                  refine WO_p (PS_nilCheck rfl) ?_
                  refine WO_p (PS_fieldAddr 25 Hvad.runUnderlying149 rfl Hvad.sizeOf32 rfl rfl) ?_
                  have hv2 := hv.ext (Ext.drew (Ext.drew (Ext.refl _)))
                  have hr2 := hr.drew.drew
                  have hbe := hv2.olds e (List.mem_of_getElem? he)
                  refine WO_store1 Hvad.sizeOf32 rfl (v := .slice _ _ _) rfl hr2.h rfl (by omega) rfl ?_
                  obtain ⟨hV, hS⟩ := hv2.wA_code hx hab hcap hr2 hrs hrow e.b hbe
                  replace hS := VStep.pre (Ext.drew (Ext.drew (Ext.refl _))) hS
                  refine WO_nil ?_
                  refine inBlk_normal ?_
                  refine inBlk_normal ?_
                  refine thn_normal ?_
                  refine W_seq ?_
                  refine W_region rfl ?_
                  refine WO_p (PS_assign_bool rfl) ?_
                  refine WO_nil ?_
                  refine thn_normal ?_
                  refine W_ret ?_
                  refine bodyQ_ret1 Hvad.results268 rfl (.bool _) rfl ?_
                  first
                  | (rw [undo_0 (by omega) h0 hx]; exact ⟨rfl, _, _, hV, hS⟩)
                  | (rw [undo_1 (by omega) h0 hx]; exact ⟨rfl, _, _, hV, hS⟩)
                  | (rw [undo_2 (by omega) h0 hx]; exact ⟨rfl, _, _, hV, hS⟩)
                  | (rw [undo_4 (by omega) h0 hx]; exact ⟨rfl, _, _, hV, hS⟩)
                  | (rw [undo_9 (by omega) h0 hx]; exact ⟨rfl, _, _, hV, hS⟩)
                  | (rw [undo_10 (by omega) h0 hx]; exact ⟨rfl, _, _, hV, hS⟩)
                  | (rw [undo_3 (by omega) h0 hx]; exact ⟨rfl, _, _, hV, hS⟩)
                  | (rw [undo_5 (by omega) h0 hx]; exact ⟨rfl, _, _, hV, hS⟩)
                  | (rw [undo_8 (by omega) h0 hx]; exact ⟨rfl, _, _, hV, hS⟩)
                  | (rw [undo_6 (by omega)]; exact ⟨rfl, _, _, hV, hS⟩)
                  | (rw [undo_7 (by omega) (by omega)]; exact ⟨rfl, _, _, hV, hS⟩)
                  | (rw [undo_7n (by omega) (by omega)]; exact ⟨rfl, VRet.ext hv (by repeat (first | assumption | exact Ext.refl _ | refine Ext.alloc ?_ _ | refine Ext.drew ?_ | refine Ext.setB ?_ (by first | omega | (simp only [size_alloc, size_setB, size_drew]; omega)) _ | refine Ext.trans ?_ (by assumption)))⟩)
                  | (rw [undo_An (by unfold Entry.isA; omega) (by omega)]; exact ⟨rfl, VRet.ext hv (by repeat (first | assumption | exact Ext.refl _ | refine Ext.alloc ?_ _ | refine Ext.drew ?_ | refine Ext.setB ?_ (by first | omega | (simp only [size_alloc, size_setB, size_drew]; omega)) _ | refine Ext.trans ?_ (by assumption)))⟩)
                  | (rw [undo_Sn (by unfold Entry.isS; omega) (by omega)]; exact ⟨rfl, VRet.ext hv (by repeat (first | assumption | exact Ext.refl _ | refine Ext.alloc ?_ _ | refine Ext.drew ?_ | refine Ext.setB ?_ (by first | omega | (simp only [size_alloc, size_setB, size_drew]; omega)) _ | refine Ext.trans ?_ (by assumption)))⟩)
                  | (rw [undo_8n (by omega) (by omega)]; exact ⟨rfl, VRet.ext hv (by repeat (first | assumption | exact Ext.refl _ | refine Ext.alloc ?_ _ | refine Ext.drew ?_ | refine Ext.setB ?_ (by first | omega | (simp only [size_alloc, size_setB, size_drew]; omega)) _ | refine Ext.trans ?_ (by assumption)))⟩)
                  | (rw [undo_n (by unfold Entry.isA; omega) (by unfold Entry.isS; omega) (by omega) (by omega) (by omega)]; exact ⟨rfl, VRet.ext hv (by repeat (first | assumption | exact Ext.refl _ | refine Ext.alloc ?_ _ | refine Ext.drew ?_ | refine Ext.setB ?_ (by first | omega | (simp only [size_alloc, size_setB, size_drew]; omega)) _ | refine Ext.trans ?_ (by assumption)))⟩)
                  | (exfalso; omega)
                · have hb54p := hb54.h; simp only [al_ete, al_dfn, Bool.not_eq_true', Bool.not_eq_false', al_ne, Bool.not_not, al_nn] at hb54p
                  refine W_seq ?_
                  refine W_region rfl ?_
                  refine WO_p (PS_eql rfl rfl) ?_
                  refine WO_p (PS_assign_bool rfl) ?_
                  refine WO_nil ?_
                  refine thn_normal ?_
                  refine W_if rfl (fun hb56 => ?_) (fun hb56 => ?_)
                  · have hb56p := hb56.h; simp only [al_ete, al_dfn, Bool.not_eq_true', Bool.not_eq_false', al_ne, Bool.not_not, al_nn] at hb56p
                    refine W_region rfl ?_
                    refine WO_p (PS_move_ptr rfl) ?_
                    refine WO_p (PS_move_ptr rfl) ?_
                    refine WO_p (PS_nilCheck rfl) ?_
                    refine WO_p (PS_fieldAddr 8 Hvad.runUnderlying173 rfl Hvad.sizeOf4 rfl rfl) ?_
                    refine WO_load (.bool _) Hvad.isAgg4 rfl (Hb.h (by repeat (first | assumption | exact Hb.newY _ _ | refine Hb.alloc ?_ | refine Hb.drew ?_ | refine Hb.ext (by assumption) ?_ | exact Hb.setSameL (by first | omega | (simp only [size_alloc, size_setB, size_drew]; omega)) | exact Hb.setSame (by assumption) | refine Hb.set (by first | omega | (simp only [size_alloc, size_setB, size_drew]; omega)) ?_ ))) (Ce.h (by first | assumption | exact ⟨rfl⟩)) ?_
                    refine WO_p (PS_nilCheck rfl) ?_
                    refine WO_p (PS_fieldAddr 26 Hvad.runUnderlying149 rfl Hvad.sizeOf4 rfl rfl) ?_
                    have hv2 := hv.ext (Ext.drew (Ext.drew (Ext.refl _)))
                    have hr2 := hr.drew.drew
                    refine WO_store1 Hvad.sizeOf4 rfl (v := .bool _) rfl hr2.h rfl (by omega) rfl ?_
                    obtain ⟨hV, hS⟩ := hv2.wA_warm hx hab hcap hr2 hrs hrow e.flag trivial
                    replace hS := VStep.pre (Ext.drew (Ext.drew (Ext.refl _))) hS
                    refine WO_nil ?_
                    refine inBlk_normal ?_
                    refine inBlk_normal ?_
                    refine thn_normal ?_
                    refine W_seq ?_
                    refine W_region rfl ?_
                    refine WO_p (PS_assign_bool rfl) ?_
                    refine WO_nil ?_
                    refine thn_normal ?_
                    refine W_ret ?_
                    refine bodyQ_ret1 Hvad.results268 rfl (.bool _) rfl ?_
                    first
                    | (rw [undo_0 (by omega) h0 hx]; exact ⟨rfl, _, _, hV, hS⟩)
                    | (rw [undo_1 (by omega) h0 hx]; exact ⟨rfl, _, _, hV, hS⟩)
                    | (rw [undo_2 (by omega) h0 hx]; exact ⟨rfl, _, _, hV, hS⟩)
                    | (rw [undo_4 (by omega) h0 hx]; exact ⟨rfl, _, _, hV, hS⟩)
                    | (rw [undo_9 (by omega) h0 hx]; exact ⟨rfl, _, _, hV, hS⟩)
                    | (rw [undo_10 (by omega) h0 hx]; exact ⟨rfl, _, _, hV, hS⟩)
                    | (rw [undo_3 (by omega) h0 hx]; exact ⟨rfl, _, _, hV, hS⟩)
                    | (rw [undo_5 (by omega) h0 hx]; exact ⟨rfl, _, _, hV, hS⟩)
                    | (rw [undo_8 (by omega) h0 hx]; exact ⟨rfl, _, _, hV, hS⟩)
                    | (rw [undo_6 (by omega)]; exact ⟨rfl, _, _, hV, hS⟩)
                    | (rw [undo_7 (by omega) (by omega)]; exact ⟨rfl, _, _, hV, hS⟩)
                    | (rw [undo_7n (by omega) (by omega)]; exact ⟨rfl, VRet.ext hv (by repeat (first | assumption | exact Ext.refl _ | refine Ext.alloc ?_ _ | refine Ext.drew ?_ | refine Ext.setB ?_ (by first | omega | (simp only [size_alloc, size_setB, size_drew]; omega)) _ | refine Ext.trans ?_ (by assumption)))⟩)
                    | (rw [undo_An (by unfold Entry.isA; omega) (by omega)]; exact ⟨rfl, VRet.ext hv (by repeat (first | assumption | exact Ext.refl _ | refine Ext.alloc ?_ _ | refine Ext.drew ?_ | refine Ext.setB ?_ (by first | omega | (simp only [size_alloc, size_setB, size_drew]; omega)) _ | refine Ext.trans ?_ (by assumption)))⟩)
                    | (rw [undo_Sn (by unfold Entry.isS; omega) (by omega)]; exact ⟨rfl, VRet.ext hv (by repeat (first | assumption | exact Ext.refl _ | refine Ext.alloc ?_ _ | refine Ext.drew ?_ | refine Ext.setB ?_ (by first | omega | (simp only [size_alloc, size_setB, size_drew]; omega)) _ | refine Ext.trans ?_ (by assumption)))⟩)
                    | (rw [undo_8n (by omega) (by omega)]; exact ⟨rfl, VRet.ext hv (by repeat (first | assumption | exact Ext.refl _ | refine Ext.alloc ?_ _ | refine Ext.drew ?_ | refine Ext.setB ?_ (by first | omega | (simp only [size_alloc, size_setB, size_drew]; omega)) _ | refine Ext.trans ?_ (by assumption)))⟩)
                    | (rw [undo_n (by unfold Entry.isA; omega) (by unfold Entry.isS; omega) (by omega) (by omega) (by omega)]; exact ⟨rfl, VRet.ext hv (by repeat (first | assumption | exact Ext.refl _ | refine Ext.alloc ?_ _ | refine Ext.drew ?_ | refine Ext.setB ?_ (by first | omega | (simp only [size_alloc, size_setB, size_drew]; omega)) _ | refine Ext.trans ?_ (by assumption)))⟩)
                    | (exfalso; omega)
                  · have hb56p := hb56.h; simp only [al_ete, al_dfn, Bool.not_eq_true', Bool.not_eq_false', al_ne, Bool.not_not, al_nn] at hb56p
                    refine W_seq ?_
                    refine W_region rfl ?_
                    refine WO_p (PS_eql rfl rfl) ?_
                    refine WO_p (PS_assign_bool rfl) ?_
                    refine WO_nil ?_
                    refine thn_normal ?_
                    refine W_if rfl (fun hb59 => ?_) (fun hb59 => ?_)
                    · have hb59p := hb59.h; simp only [al_ete, al_dfn, Bool.not_eq_true', Bool.not_eq_false', al_ne, Bool.not_not, al_nn] at hb59p
                      refine W_region rfl ?_
                      refine WO_p (PS_move_ptr rfl) ?_
                      refine WO_p (PS_move_ptr rfl) ?_
                      refine WO_p (PS_nilCheck rfl) ?_
                      refine WO_p (PS_fieldAddr 8 Hvad.runUnderlying173 rfl Hvad.sizeOf4 rfl rfl) ?_
                      refine WO_load (.bool _) Hvad.isAgg4 rfl (Hb.h (by repeat (first | assumption | exact Hb.newY _ _ | refine Hb.alloc ?_ | refine Hb.drew ?_ | refine Hb.ext (by assumption) ?_ | exact Hb.setSameL (by first | omega | (simp only [size_alloc, size_setB, size_drew]; omega)) | exact Hb.setSame (by assumption) | refine Hb.set (by first | omega | (simp only [size_alloc, size_setB, size_drew]; omega)) ?_ ))) (Ce.h (by first | assumption | exact ⟨rfl⟩)) ?_
                      refine WO_p (PS_nilCheck rfl) ?_
                      refine WO_p (PS_fieldAddr 27 Hvad.runUnderlying149 rfl Hvad.sizeOf4 rfl rfl) ?_
                      have hv2 := hv.ext (Ext.drew (Ext.drew (Ext.refl _)))
                      have hr2 := hr.drew.drew
                      refine WO_store1 Hvad.sizeOf4 rfl (v := .bool _) rfl hr2.h rfl (by omega) rfl ?_
                      obtain ⟨hV, hS⟩ := hv2.wA_made hx hab hcap hr2 hrs hrow e.flag trivial
                      replace hS := VStep.pre (Ext.drew (Ext.drew (Ext.refl _))) hS
                      refine WO_nil ?_
                      refine inBlk_normal ?_
                      refine inBlk_normal ?_
                      refine thn_normal ?_
                      refine W_seq ?_
                      refine W_region rfl ?_
                      refine WO_p (PS_assign_bool rfl) ?_
                      refine WO_nil ?_
                      refine thn_normal ?_
                      refine W_ret ?_
                      refine bodyQ_ret1 Hvad.results268 rfl (.bool _) rfl ?_
                      first
                      | (rw [undo_0 (by omega) h0 hx]; exact ⟨rfl, _, _, hV, hS⟩)
                      | (rw [undo_1 (by omega) h0 hx]; exact ⟨rfl, _, _, hV, hS⟩)
                      | (rw [undo_2 (by omega) h0 hx]; exact ⟨rfl, _, _, hV, hS⟩)
                      | (rw [undo_4 (by omega) h0 hx]; exact ⟨rfl, _, _, hV, hS⟩)
                      | (rw [undo_9 (by omega) h0 hx]; exact ⟨rfl, _, _, hV, hS⟩)
                      | (rw [undo_10 (by omega) h0 hx]; exact ⟨rfl, _, _, hV, hS⟩)
                      | (rw [undo_3 (by omega) h0 hx]; exact ⟨rfl, _, _, hV, hS⟩)
                      | (rw [undo_5 (by omega) h0 hx]; exact ⟨rfl, _, _, hV, hS⟩)
                      | (rw [undo_8 (by omega) h0 hx]; exact ⟨rfl, _, _, hV, hS⟩)
                      | (rw [undo_6 (by omega)]; exact ⟨rfl, _, _, hV, hS⟩)
                      | (rw [undo_7 (by omega) (by omega)]; exact ⟨rfl, _, _, hV, hS⟩)
                      | (rw [undo_7n (by omega) (by omega)]; exact ⟨rfl, VRet.ext hv (by repeat (first | assumption | exact Ext.refl _ | refine Ext.alloc ?_ _ | refine Ext.drew ?_ | refine Ext.setB ?_ (by first | omega | (simp only [size_alloc, size_setB, size_drew]; omega)) _ | refine Ext.trans ?_ (by assumption)))⟩)
                      | (rw [undo_An (by unfold Entry.isA; omega) (by omega)]; exact ⟨rfl, VRet.ext hv (by repeat (first | assumption | exact Ext.refl _ | refine Ext.alloc ?_ _ | refine Ext.drew ?_ | refine Ext.setB ?_ (by first | omega | (simp only [size_alloc, size_setB, size_drew]; omega)) _ | refine Ext.trans ?_ (by assumption)))⟩)
                      | (rw [undo_Sn (by unfold Entry.isS; omega) (by omega)]; exact ⟨rfl, VRet.ext hv (by repeat (first | assumption | exact Ext.refl _ | refine Ext.alloc ?_ _ | refine Ext.drew ?_ | refine Ext.setB ?_ (by first | omega | (simp only [size_alloc, size_setB, size_drew]; omega)) _ | refine Ext.trans ?_ (by assumption)))⟩)
                      | (rw [undo_8n (by omega) (by omega)]; exact ⟨rfl, VRet.ext hv (by repeat (first | assumption | exact Ext.refl _ | refine Ext.alloc ?_ _ | refine Ext.drew ?_ | refine Ext.setB ?_ (by first | omega | (simp only [size_alloc, size_setB, size_drew]; omega)) _ | refine Ext.trans ?_ (by assumption)))⟩)
                      | (rw [undo_n (by unfold Entry.isA; omega) (by unfold Entry.isS; omega) (by omega) (by omega) (by omega)]; exact ⟨rfl, VRet.ext hv (by repeat (first | assumption | exact Ext.refl _ | refine Ext.alloc ?_ _ | refine Ext.drew ?_ | refine Ext.setB ?_ (by first | omega | (simp only [size_alloc, size_setB, size_drew]; omega)) _ | refine Ext.trans ?_ (by assumption)))⟩)
                      | (exfalso; omega)
                    · have hb59p := hb59.h; simp only [al_ete, al_dfn, Bool.not_eq_true', Bool.not_eq_false', al_ne, Bool.not_not, al_nn] at hb59p
                      refine W_seq ?_
                      refine W_region rfl ?_
                      refine WO_p (PS_eql rfl rfl) ?_
                      refine WO_p (PS_assign_bool rfl) ?_
                      refine WO_nil ?_
                      refine thn_normal ?_
                      refine W_if rfl (fun hb62 => ?_) (fun hb62 => ?_)
                      · have hb62p := hb62.h; simp only [al_ete, al_dfn, Bool.not_eq_true', Bool.not_eq_false', al_ne, Bool.not_not, al_nn] at hb62p
                        refine W_region rfl ?_
                        refine WO_p (PS_move_ptr rfl) ?_
                        refine WO_p (PS_move_ptr rfl) ?_
                        refine WO_p (PS_nilCheck rfl) ?_
                        refine WO_p (PS_fieldAddr 8 Hvad.runUnderlying173 rfl Hvad.sizeOf4 rfl rfl) ?_
                        refine WO_load (.bool _) Hvad.isAgg4 rfl (Hb.h (by repeat (first | assumption | exact Hb.newY _ _ | refine Hb.alloc ?_ | refine Hb.drew ?_ | refine Hb.ext (by assumption) ?_ | exact Hb.setSameL (by first | omega | (simp only [size_alloc, size_setB, size_drew]; omega)) | exact Hb.setSame (by assumption) | refine Hb.set (by first | omega | (simp only [size_alloc, size_setB, size_drew]; omega)) ?_ ))) (Ce.h (by first | assumption | exact ⟨rfl⟩)) ?_
                        refine WO_p (PS_nilCheck rfl) ?_
                        refine WO_p (PS_fieldAddr 28 Hvad.runUnderlying149 rfl Hvad.sizeOf4 rfl rfl) ?_
                        have hv2 := hv.ext (Ext.drew (Ext.drew (Ext.refl _)))
                        have hr2 := hr.drew.drew
                        refine WO_store1 Hvad.sizeOf4 rfl (v := .bool _) rfl hr2.h rfl (by omega) rfl ?_
                        obtain ⟨hV, hS⟩ := hv2.wA_gone hx hab hcap hr2 hrs hrow e.flag trivial
                        replace hS := VStep.pre (Ext.drew (Ext.drew (Ext.refl _))) hS
                        refine WO_nil ?_
                        refine inBlk_normal ?_
                        refine inBlk_normal ?_
                        refine thn_normal ?_
                        refine W_seq ?_
                        refine W_region rfl ?_
                        refine WO_p (PS_assign_bool rfl) ?_
                        refine WO_nil ?_
                        refine thn_normal ?_
                        refine W_ret ?_
                        refine bodyQ_ret1 Hvad.results268 rfl (.bool _) rfl ?_
                        first
                        | (rw [undo_0 (by omega) h0 hx]; exact ⟨rfl, _, _, hV, hS⟩)
                        | (rw [undo_1 (by omega) h0 hx]; exact ⟨rfl, _, _, hV, hS⟩)
                        | (rw [undo_2 (by omega) h0 hx]; exact ⟨rfl, _, _, hV, hS⟩)
                        | (rw [undo_4 (by omega) h0 hx]; exact ⟨rfl, _, _, hV, hS⟩)
                        | (rw [undo_9 (by omega) h0 hx]; exact ⟨rfl, _, _, hV, hS⟩)
                        | (rw [undo_10 (by omega) h0 hx]; exact ⟨rfl, _, _, hV, hS⟩)
                        | (rw [undo_3 (by omega) h0 hx]; exact ⟨rfl, _, _, hV, hS⟩)
                        | (rw [undo_5 (by omega) h0 hx]; exact ⟨rfl, _, _, hV, hS⟩)
                        | (rw [undo_8 (by omega) h0 hx]; exact ⟨rfl, _, _, hV, hS⟩)
                        | (rw [undo_6 (by omega)]; exact ⟨rfl, _, _, hV, hS⟩)
                        | (rw [undo_7 (by omega) (by omega)]; exact ⟨rfl, _, _, hV, hS⟩)
                        | (rw [undo_7n (by omega) (by omega)]; exact ⟨rfl, VRet.ext hv (by repeat (first | assumption | exact Ext.refl _ | refine Ext.alloc ?_ _ | refine Ext.drew ?_ | refine Ext.setB ?_ (by first | omega | (simp only [size_alloc, size_setB, size_drew]; omega)) _ | refine Ext.trans ?_ (by assumption)))⟩)
                        | (rw [undo_An (by unfold Entry.isA; omega) (by omega)]; exact ⟨rfl, VRet.ext hv (by repeat (first | assumption | exact Ext.refl _ | refine Ext.alloc ?_ _ | refine Ext.drew ?_ | refine Ext.setB ?_ (by first | omega | (simp only [size_alloc, size_setB, size_drew]; omega)) _ | refine Ext.trans ?_ (by assumption)))⟩)
                        | (rw [undo_Sn (by unfold Entry.isS; omega) (by omega)]; exact ⟨rfl, VRet.ext hv (by repeat (first | assumption | exact Ext.refl _ | refine Ext.alloc ?_ _ | refine Ext.drew ?_ | refine Ext.setB ?_ (by first | omega | (simp only [size_alloc, size_setB, size_drew]; omega)) _ | refine Ext.trans ?_ (by assumption)))⟩)
                        | (rw [undo_8n (by omega) (by omega)]; exact ⟨rfl, VRet.ext hv (by repeat (first | assumption | exact Ext.refl _ | refine Ext.alloc ?_ _ | refine Ext.drew ?_ | refine Ext.setB ?_ (by first | omega | (simp only [size_alloc, size_setB, size_drew]; omega)) _ | refine Ext.trans ?_ (by assumption)))⟩)
                        | (rw [undo_n (by unfold Entry.isA; omega) (by unfold Entry.isS; omega) (by omega) (by omega) (by omega)]; exact ⟨rfl, VRet.ext hv (by repeat (first | assumption | exact Ext.refl _ | refine Ext.alloc ?_ _ | refine Ext.drew ?_ | refine Ext.setB ?_ (by first | omega | (simp only [size_alloc, size_setB, size_drew]; omega)) _ | refine Ext.trans ?_ (by assumption)))⟩)
                        | (exfalso; omega)
                      · have hb62p := hb62.h; simp only [al_ete, al_dfn, Bool.not_eq_true', Bool.not_eq_false', al_ne, Bool.not_not, al_nn] at hb62p
                        refine W_skip ?_
                        refine inBlk_normal ?_
                        refine inBlk_normal ?_
                        refine thn_normal ?_
                        refine W_seq ?_
                        refine W_region rfl ?_
                        refine WO_p (PS_assign_bool rfl) ?_
                        refine WO_nil ?_
                        refine thn_normal ?_
                        refine W_ret ?_
                        refine bodyQ_ret1 Hvad.results268 rfl (.bool _) rfl ?_
                        first
                        | (rw [undo_0 (by omega) h0 hx]; exact ⟨rfl, _, _, hV, hS⟩)
                        | (rw [undo_1 (by omega) h0 hx]; exact ⟨rfl, _, _, hV, hS⟩)
                        | (rw [undo_2 (by omega) h0 hx]; exact ⟨rfl, _, _, hV, hS⟩)
                        | (rw [undo_4 (by omega) h0 hx]; exact ⟨rfl, _, _, hV, hS⟩)
                        | (rw [undo_9 (by omega) h0 hx]; exact ⟨rfl, _, _, hV, hS⟩)
                        | (rw [undo_10 (by omega) h0 hx]; exact ⟨rfl, _, _, hV, hS⟩)
                        | (rw [undo_3 (by omega) h0 hx]; exact ⟨rfl, _, _, hV, hS⟩)
                        | (rw [undo_5 (by omega) h0 hx]; exact ⟨rfl, _, _, hV, hS⟩)
                        | (rw [undo_8 (by omega) h0 hx]; exact ⟨rfl, _, _, hV, hS⟩)
                        | (rw [undo_6 (by omega)]; exact ⟨rfl, _, _, hV, hS⟩)
                        | (rw [undo_7 (by omega) (by omega)]; exact ⟨rfl, _, _, hV, hS⟩)
                        | (rw [undo_7n (by omega) (by omega)]; exact ⟨rfl, VRet.ext hv (by repeat (first | assumption | exact Ext.refl _ | refine Ext.alloc ?_ _ | refine Ext.drew ?_ | refine Ext.setB ?_ (by first | omega | (simp only [size_alloc, size_setB, size_drew]; omega)) _ | refine Ext.trans ?_ (by assumption)))⟩)
                        | (rw [undo_An (by unfold Entry.isA; omega) (by omega)]; exact ⟨rfl, VRet.ext hv (by repeat (first | assumption | exact Ext.refl _ | refine Ext.alloc ?_ _ | refine Ext.drew ?_ | refine Ext.setB ?_ (by first | omega | (simp only [size_alloc, size_setB, size_drew]; omega)) _ | refine Ext.trans ?_ (by assumption)))⟩)
                        | (rw [undo_Sn (by unfold Entry.isS; omega) (by omega)]; exact ⟨rfl, VRet.ext hv (by repeat (first | assumption | exact Ext.refl _ | refine Ext.alloc ?_ _ | refine Ext.drew ?_ | refine Ext.setB ?_ (by first | omega | (simp only [size_alloc, size_setB, size_drew]; omega)) _ | refine Ext.trans ?_ (by assumption)))⟩)
                        | (rw [undo_8n (by omega) (by omega)]; exact ⟨rfl, VRet.ext hv (by repeat (first | assumption | exact Ext.refl _ | refine Ext.alloc ?_ _ | refine Ext.drew ?_ | refine Ext.setB ?_ (by first | omega | (simp only [size_alloc, size_setB, size_drew]; omega)) _ | refine Ext.trans ?_ (by assumption)))⟩)
                        | (rw [undo_n (by unfold Entry.isA; omega) (by unfold Entry.isS; omega) (by omega) (by omega) (by omega)]; exact ⟨rfl, VRet.ext hv (by repeat (first | assumption | exact Ext.refl _ | refine Ext.alloc ?_ _ | refine Ext.drew ?_ | refine Ext.setB ?_ (by first | omega | (simp only [size_alloc, size_setB, size_drew]; omega)) _ | refine Ext.trans ?_ (by assumption)))⟩)
                        | (exfalso; omega)
      · have hb44p := hb44.h; simp only [al_ete, al_dfn, Bool.not_eq_true', Bool.not_eq_false', al_ne, Bool.not_not, al_nn] at hb44p
        refine W_seq ?_
        refine W_region rfl ?_
        refine WO_p (PS_eql rfl rfl) ?_
        refine WO_p (PS_assign_bool rfl) ?_
        refine WO_nil ?_
        refine thn_normal ?_
        refine W_if rfl (fun hb65 => ?_) (fun hb65 => ?_)
        · have hb65p := hb65.h; simp only [al_ete, al_dfn, Bool.not_eq_true', Bool.not_eq_false', al_ne, Bool.not_not, al_nn] at hb65p
          refine W_skip ?_
          refine thn_normal ?_
          refine W_condT rfl hb65.h ?_
          refine W_seq ?_
          refine W_seq ?_
          refine W_drawE [false, false, false, false, false, false, false, false, false, false, false, false, false, false, false, false, false, false] hmix (by kernel_rfl) rfl ?_
          refine WH_p (PS_move_ptr rfl) rfl ?_
          refine WH_p (PS_nilCheck rfl) rfl ?_
          refine WH_p (PS_fieldAddr 1 Hvad.runUnderlying173 rfl Hvad.sizeOf21 rfl rfl) rfl ?_
          refine WH_load (.int _ _) Hvad.isAgg21 rfl (Hb.h (by repeat (first | assumption | exact Hb.newY _ _ | refine Hb.alloc ?_ | refine Hb.drew ?_ | refine Hb.ext (by assumption) ?_ | exact Hb.setSameL (by first | omega | (simp only [size_alloc, size_setB, size_drew]; omega)) | exact Hb.setSame (by assumption) | refine Hb.set (by first | omega | (simp only [size_alloc, size_setB, size_drew]; omega)) ?_ ))) (Ce.h (by first | assumption | exact ⟨rfl⟩)) ?_
          refine WH_p (PS_lss rfl rfl) rfl ?_
          refine WH_p (PS_move_bool rfl) rfl ?_
          refine WH_if (t := 22) rfl (fun hb67 => ?_) (fun hb67 => ?_)
          · have hb67p := hb67.h; simp only [al_ete, al_dfn, Bool.not_eq_true', Bool.not_eq_false', al_ne, Bool.not_not, al_nn] at hb67p
            refine WH_guardF rfl rfl hb67.h ?_
            refine WH_guardF rfl rfl hb67.h ?_
            refine WH_guardF rfl rfl hb67.h ?_
            refine WH_guardF rfl rfl hb67.h ?_
            refine WH_guardF rfl rfl hb67.h ?_
            refine WH_guardF rfl rfl hb67.h ?_
            refine WH_guardF rfl rfl hb67.h ?_
            refine WH_guardF rfl rfl hb67.h ?_
            refine WH_guardF rfl rfl hb67.h ?_
            refine WH_guardF rfl rfl hb67.h ?_
            refine WH_guardF rfl rfl hb67.h ?_
            refine WH_p (PS_pickT rfl hb67.h rfl) rfl ?_
            refine WH_nil ?_
            refine thn_normal ?_
            refine W_condT rfl rfl ?_
            refine W_seq ?_
            refine W_region rfl ?_
            refine WO_p (PS_assign_bool rfl) ?_
            refine WO_nil ?_
            refine thn_normal ?_
            refine W_ret ?_
            refine thn_ret ?_
            refine inBlk_ret ?_
            refine thn_ret ?_
            refine bodyQ_ret1 Hvad.results268 rfl (.bool _) rfl ?_
            first
            | (rw [undo_0 (by omega) h0 hx]; exact ⟨rfl, _, _, hV, hS⟩)
            | (rw [undo_1 (by omega) h0 hx]; exact ⟨rfl, _, _, hV, hS⟩)
            | (rw [undo_2 (by omega) h0 hx]; exact ⟨rfl, _, _, hV, hS⟩)
            | (rw [undo_4 (by omega) h0 hx]; exact ⟨rfl, _, _, hV, hS⟩)
            | (rw [undo_9 (by omega) h0 hx]; exact ⟨rfl, _, _, hV, hS⟩)
            | (rw [undo_10 (by omega) h0 hx]; exact ⟨rfl, _, _, hV, hS⟩)
            | (rw [undo_3 (by omega) h0 hx]; exact ⟨rfl, _, _, hV, hS⟩)
            | (rw [undo_5 (by omega) h0 hx]; exact ⟨rfl, _, _, hV, hS⟩)
            | (rw [undo_8 (by omega) h0 hx]; exact ⟨rfl, _, _, hV, hS⟩)
            | (rw [undo_6 (by omega)]; exact ⟨rfl, _, _, hV, hS⟩)
            | (rw [undo_7 (by omega) (by omega)]; exact ⟨rfl, _, _, hV, hS⟩)
            | (rw [undo_7n (by omega) (by omega)]; exact ⟨rfl, VRet.ext hv (by repeat (first | assumption | exact Ext.refl _ | refine Ext.alloc ?_ _ | refine Ext.drew ?_ | refine Ext.setB ?_ (by first | omega | (simp only [size_alloc, size_setB, size_drew]; omega)) _ | refine Ext.trans ?_ (by assumption)))⟩)
            | (rw [undo_An (by unfold Entry.isA; omega) (by omega)]; exact ⟨rfl, VRet.ext hv (by repeat (first | assumption | exact Ext.refl _ | refine Ext.alloc ?_ _ | refine Ext.drew ?_ | refine Ext.setB ?_ (by first | omega | (simp only [size_alloc, size_setB, size_drew]; omega)) _ | refine Ext.trans ?_ (by assumption)))⟩)
            | (rw [undo_Sn (by unfold Entry.isS; omega) (by omega)]; exact ⟨rfl, VRet.ext hv (by repeat (first | assumption | exact Ext.refl _ | refine Ext.alloc ?_ _ | refine Ext.drew ?_ | refine Ext.setB ?_ (by first | omega | (simp only [size_alloc, size_setB, size_drew]; omega)) _ | refine Ext.trans ?_ (by assumption)))⟩)
            | (rw [undo_8n (by omega) (by omega)]; exact ⟨rfl, VRet.ext hv (by repeat (first | assumption | exact Ext.refl _ | refine Ext.alloc ?_ _ | refine Ext.drew ?_ | refine Ext.setB ?_ (by first | omega | (simp only [size_alloc, size_setB, size_drew]; omega)) _ | refine Ext.trans ?_ (by assumption)))⟩)
            | (rw [undo_n (by unfold Entry.isA; omega) (by unfold Entry.isS; omega) (by omega) (by omega) (by omega)]; exact ⟨rfl, VRet.ext hv (by repeat (first | assumption | exact Ext.refl _ | refine Ext.alloc ?_ _ | refine Ext.drew ?_ | refine Ext.setB ?_ (by first | omega | (simp only [size_alloc, size_setB, size_drew]; omega)) _ | refine Ext.trans ?_ (by assumption)))⟩)
            | (exfalso; omega)
          · have hb67p := hb67.h; simp only [al_ete, al_dfn, Bool.not_eq_true', Bool.not_eq_false', al_ne, Bool.not_not, al_nn] at hb67p
            refine WH_guardT rfl rfl hb67.h ?_
            refine WH_p (PS_move_ptr rfl) rfl ?_
            refine WH_guardT rfl rfl hb67.h ?_
            refine WH_p (PS_nilCheck rfl) rfl ?_
            refine WH_guardT rfl rfl hb67.h ?_
            refine WH_p (PS_fieldAddr 1 Hvad.runUnderlying173 rfl Hvad.sizeOf21 rfl rfl) rfl ?_
            refine WH_guardT rfl rfl hb67.h ?_
            refine WH_load (.int _ _) Hvad.isAgg21 rfl (Hb.h (by repeat (first | assumption | exact Hb.newY _ _ | refine Hb.alloc ?_ | refine Hb.drew ?_ | refine Hb.ext (by assumption) ?_ | exact Hb.setSameL (by first | omega | (simp only [size_alloc, size_setB, size_drew]; omega)) | exact Hb.setSame (by assumption) | refine Hb.set (by first | omega | (simp only [size_alloc, size_setB, size_drew]; omega)) ?_ ))) (Ce.h (by first | assumption | exact ⟨rfl⟩)) ?_
            refine WH_guardT rfl rfl hb67.h ?_
            refine WH_p (PS_conv_i64n Hvad.runUnderlying21 Hvad.runUnderlying3 rfl (by omega) (by omega)) rfl ?_
            refine WH_guardT rfl rfl hb67.h ?_
            refine WH_p (PS_move_ptr rfl) rfl ?_
            refine WH_guardT rfl rfl hb67.h ?_
            refine WH_p (PS_nilCheck rfl) rfl ?_
            refine WH_guardT rfl rfl hb67.h ?_
            refine WH_p (PS_fieldAddr 0 Hvad.runUnderlying79 rfl Hvad.sizeOf70 rfl rfl) rfl ?_
            refine WH_guardT rfl rfl hb67.h ?_
            refine WH_load (.slice _ _ _) Hvad.isAgg70 rfl (Hb.h (by repeat (first | assumption | exact Hb.newY _ _ | refine Hb.alloc ?_ | refine Hb.drew ?_ | refine Hb.ext (by assumption) ?_ | exact Hb.setSameL (by first | omega | (simp only [size_alloc, size_setB, size_drew]; omega)) | exact Hb.setSame (by assumption) | refine Hb.set (by first | omega | (simp only [size_alloc, size_setB, size_drew]; omega)) ?_ ))) (Ce.h (by first | assumption | exact ⟨rfl⟩)) ?_
            refine WH_guardT rfl rfl hb67.h ?_
            refine WH_p (PS_lenS Hvad.runUnderlying70 rfl) rfl ?_
            refine WH_guardT rfl rfl hb67.h ?_
            refine WH_p (PS_geq rfl rfl) rfl ?_
            refine WH_p (PS_pickF rfl hb67.h rfl) rfl ?_
            refine WH_nil ?_
            refine thn_normal ?_
            refine W_if rfl (fun hb69 => ?_) (fun hb69 => ?_)
            · have hb69p := hb69.h; simp only [al_ete, al_dfn, Bool.not_eq_true', Bool.not_eq_false', al_ne, Bool.not_not, al_nn] at hb69p
              refine W_seq ?_
              refine W_region rfl ?_
              refine WO_p (PS_assign_bool rfl) ?_
              refine WO_nil ?_
              refine thn_normal ?_
              refine W_ret ?_
              refine thn_ret ?_
              refine inBlk_ret ?_
              refine thn_ret ?_
              refine bodyQ_ret1 Hvad.results268 rfl (.bool _) rfl ?_
              first
              | (rw [undo_0 (by omega) h0 hx]; exact ⟨rfl, _, _, hV, hS⟩)
              | (rw [undo_1 (by omega) h0 hx]; exact ⟨rfl, _, _, hV, hS⟩)
              | (rw [undo_2 (by omega) h0 hx]; exact ⟨rfl, _, _, hV, hS⟩)
              | (rw [undo_4 (by omega) h0 hx]; exact ⟨rfl, _, _, hV, hS⟩)
              | (rw [undo_9 (by omega) h0 hx]; exact ⟨rfl, _, _, hV, hS⟩)
              | (rw [undo_10 (by omega) h0 hx]; exact ⟨rfl, _, _, hV, hS⟩)
              | (rw [undo_3 (by omega) h0 hx]; exact ⟨rfl, _, _, hV, hS⟩)
              | (rw [undo_5 (by omega) h0 hx]; exact ⟨rfl, _, _, hV, hS⟩)
              | (rw [undo_8 (by omega) h0 hx]; exact ⟨rfl, _, _, hV, hS⟩)
              | (rw [undo_6 (by omega)]; exact ⟨rfl, _, _, hV, hS⟩)
              | (rw [undo_7 (by omega) (by omega)]; exact ⟨rfl, _, _, hV, hS⟩)
              | (rw [undo_7n (by omega) (by omega)]; exact ⟨rfl, VRet.ext hv (by repeat (first | assumption | exact Ext.refl _ | refine Ext.alloc ?_ _ | refine Ext.drew ?_ | refine Ext.setB ?_ (by first | omega | (simp only [size_alloc, size_setB, size_drew]; omega)) _ | refine Ext.trans ?_ (by assumption)))⟩)
              | (rw [undo_An (by unfold Entry.isA; omega) (by omega)]; exact ⟨rfl, VRet.ext hv (by repeat (first | assumption | exact Ext.refl _ | refine Ext.alloc ?_ _ | refine Ext.drew ?_ | refine Ext.setB ?_ (by first | omega | (simp only [size_alloc, size_setB, size_drew]; omega)) _ | refine Ext.trans ?_ (by assumption)))⟩)
              | (rw [undo_Sn (by unfold Entry.isS; omega) (by omega)]; exact ⟨rfl, VRet.ext hv (by repeat (first | assumption | exact Ext.refl _ | refine Ext.alloc ?_ _ | refine Ext.drew ?_ | refine Ext.setB ?_ (by first | omega | (simp only [size_alloc, size_setB, size_drew]; omega)) _ | refine Ext.trans ?_ (by assumption)))⟩)
              | (rw [undo_8n (by omega) (by omega)]; exact ⟨rfl, VRet.ext hv (by repeat (first | assumption | exact Ext.refl _ | refine Ext.alloc ?_ _ | refine Ext.drew ?_ | refine Ext.setB ?_ (by first | omega | (simp only [size_alloc, size_setB, size_drew]; omega)) _ | refine Ext.trans ?_ (by assumption)))⟩)
              | (rw [undo_n (by unfold Entry.isA; omega) (by unfold Entry.isS; omega) (by omega) (by omega) (by omega)]; exact ⟨rfl, VRet.ext hv (by repeat (first | assumption | exact Ext.refl _ | refine Ext.alloc ?_ _ | refine Ext.drew ?_ | refine Ext.setB ?_ (by first | omega | (simp only [size_alloc, size_setB, size_drew]; omega)) _ | refine Ext.trans ?_ (by assumption)))⟩)
              | (exfalso; omega)
            · have hb69p := hb69.h; simp only [al_ete, al_dfn, Bool.not_eq_true', Bool.not_eq_false', al_ne, Bool.not_not, al_nn] at hb69p
              have h0 : 0 ≤ e.at_ := by omega
              obtain ⟨x, hx⟩ : ∃ x, v.accts[e.at_.toNat]? = some x := ⟨_, List.getElem?_eq_getElem (by omega)⟩
              clear hda
              obtain ⟨b, cap, r, hab, hcap, hr, hrs, hrow, hda, hbd, hil, hty, f0, f1, f2, f3, f4, f5, f6⟩ := hv.openA hx
              refine W_skip ?_
              refine thn_normal ?_
              refine W_seq ?_
              refine W_drawE [false, false, false, false, false, false, false, false, false, false] hmix (by kernel_rfl) rfl ?_
              refine WH_p (PS_move_ptr rfl) rfl ?_
              refine WH_p (PS_nilCheck rfl) rfl ?_
              refine WH_p (PS_fieldAddr 0 Hvad.runUnderlying79 rfl Hvad.sizeOf70 rfl rfl) rfl ?_
              refine WH_load (.slice _ _ _) Hvad.isAgg70 rfl (Hb.h (by repeat (first | assumption | exact Hb.newY _ _ | refine Hb.alloc ?_ | refine Hb.drew ?_ | refine Hb.ext (by assumption) ?_ | exact Hb.setSameL (by first | omega | (simp only [size_alloc, size_setB, size_drew]; omega)) | exact Hb.setSame (by assumption) | refine Hb.set (by first | omega | (simp only [size_alloc, size_setB, size_drew]; omega)) ?_ ))) (Ce.h (by first | assumption | exact ⟨rfl⟩)) ?_
              refine WH_p (PS_move_ptr rfl) rfl ?_
              refine WH_p (PS_nilCheck rfl) rfl ?_
              refine WH_p (PS_fieldAddr 1 Hvad.runUnderlying173 rfl Hvad.sizeOf21 rfl rfl) rfl ?_
              refine WH_load (.int _ _) Hvad.isAgg21 rfl (Hb.h (by repeat (first | assumption | exact Hb.newY _ _ | refine Hb.alloc ?_ | refine Hb.drew ?_ | refine Hb.ext (by assumption) ?_ | exact Hb.setSameL (by first | omega | (simp only [size_alloc, size_setB, size_drew]; omega)) | exact Hb.setSame (by assumption) | refine Hb.set (by first | omega | (simp only [size_alloc, size_setB, size_drew]; omega)) ?_ ))) (Ce.h (by first | assumption | exact ⟨rfl⟩)) ?_
              refine WH_p (PS_indexS Hvad.runUnderlying70 Hvad.sizeOf149 rfl rfl (by omega) (by omega)) rfl ?_
              refine WH_p (PS_assign_ptr rfl) rfl ?_
              refine WH_nil ?_
              refine thn_normal ?_
              refine W_seq ?_
              refine W_region rfl ?_
              refine WO_p (PS_move_ptr rfl) ?_
              refine WO_p (PS_nilCheck rfl) ?_
              refine WO_p (PS_fieldAddr 0 Hvad.runUnderlying173 rfl Hvad.sizeOf5 rfl rfl) ?_
              refine WO_load (.int _ _) Hvad.isAgg5 rfl (Hb.h (by repeat (first | assumption | exact Hb.newY _ _ | refine Hb.alloc ?_ | refine Hb.drew ?_ | refine Hb.ext (by assumption) ?_ | exact Hb.setSameL (by first | omega | (simp only [size_alloc, size_setB, size_drew]; omega)) | exact Hb.setSame (by assumption) | refine Hb.set (by first | omega | (simp only [size_alloc, size_setB, size_drew]; omega)) ?_ ))) (Ce.h (by first | assumption | exact ⟨rfl⟩)) ?_
              refine WO_nil ?_
              refine thn_normal ?_
              refine W_block ?_
              refine W_seq ?_
              refine W_region rfl ?_
              refine WO_p (PS_eql rfl rfl) ?_
              refine WO_p (PS_assign_bool rfl) ?_
              refine WO_nil ?_
              refine thn_normal ?_
              refine W_if rfl (fun hb71 => ?_) (fun hb71 => ?_)
              · have hb71p := hb71.h; simp only [al_ete, al_dfn, Bool.not_eq_true', Bool.not_eq_false', al_ne, Bool.not_not, al_nn] at hb71p
                refine W_region rfl ?_
                refine WO_p (PS_move_ptr rfl) ?_
                refine WO_p (PS_move_ptr rfl) ?_
                refine WO_p (PS_nilCheck rfl) ?_
                refine WO_p (PS_fieldAddr 3 Hvad.runUnderlying173 rfl Hvad.sizeOf59 rfl rfl) ?_
                refine WO_loadA _ Hvad.isAgg59 Hvad.sizeOf59 rfl (Hb.h (by repeat (first | assumption | exact Hb.newY _ _ | refine Hb.alloc ?_ | refine Hb.drew ?_ | refine Hb.ext (by assumption) ?_ | exact Hb.setSameL (by first | omega | (simp only [size_alloc, size_setB, size_drew]; omega)) | exact Hb.setSame (by assumption) | refine Hb.set (by first | omega | (simp only [size_alloc, size_setB, size_drew]; omega)) ?_ ))) (by first | omega | assumption | rfl | decide | (simp only [size_ic, Value.cells]; omega) | simp) (Xt.h (by first | assumption | exact Xt.whole rfl rfl | exact Xt.whole rfl (by simp only [size_ic, Value.cells]; omega) | exact ⟨rfl⟩)) ?_
                refine WO_p (PS_nilCheck rfl) ?_
                refine WO_p (PS_fieldAddr 21 Hvad.runUnderlying149 rfl Hvad.sizeOf59 rfl rfl) ?_
                have hv2 := hv.ext (Ext.drew (Ext.drew (Ext.refl _)))
                have hr2 := hr.drew.drew
                refine WO_store Hvad.sizeOf59 rfl (v := .agg (ic .u64 e.w)) rfl hr2.h (by first | omega | assumption | rfl | decide | (simp only [size_ic, Value.cells]; omega) | simp) (by omega) (by first | exact oneCell_ic | assumption) ?_
                obtain ⟨hV, hS⟩ := hv2.wA_bal hx hab hcap hr2 hrs hrow e.w htj.2.2.2
                replace hS := VStep.pre (Ext.drew (Ext.drew (Ext.refl _))) hS
                refine WO_nil ?_
                refine inBlk_normal ?_
                refine inBlk_normal ?_
                refine thn_normal ?_
                refine W_seq ?_
                refine W_region rfl ?_
                refine WO_p (PS_assign_bool rfl) ?_
                refine WO_nil ?_
                refine thn_normal ?_
                refine W_ret ?_
                refine bodyQ_ret1 Hvad.results268 rfl (.bool _) rfl ?_
                first
                | (rw [undo_0 (by omega) h0 hx]; exact ⟨rfl, _, _, hV, hS⟩)
                | (rw [undo_1 (by omega) h0 hx]; exact ⟨rfl, _, _, hV, hS⟩)
                | (rw [undo_2 (by omega) h0 hx]; exact ⟨rfl, _, _, hV, hS⟩)
                | (rw [undo_4 (by omega) h0 hx]; exact ⟨rfl, _, _, hV, hS⟩)
                | (rw [undo_9 (by omega) h0 hx]; exact ⟨rfl, _, _, hV, hS⟩)
                | (rw [undo_10 (by omega) h0 hx]; exact ⟨rfl, _, _, hV, hS⟩)
                | (rw [undo_3 (by omega) h0 hx]; exact ⟨rfl, _, _, hV, hS⟩)
                | (rw [undo_5 (by omega) h0 hx]; exact ⟨rfl, _, _, hV, hS⟩)
                | (rw [undo_8 (by omega) h0 hx]; exact ⟨rfl, _, _, hV, hS⟩)
                | (rw [undo_6 (by omega)]; exact ⟨rfl, _, _, hV, hS⟩)
                | (rw [undo_7 (by omega) (by omega)]; exact ⟨rfl, _, _, hV, hS⟩)
                | (rw [undo_7n (by omega) (by omega)]; exact ⟨rfl, VRet.ext hv (by repeat (first | assumption | exact Ext.refl _ | refine Ext.alloc ?_ _ | refine Ext.drew ?_ | refine Ext.setB ?_ (by first | omega | (simp only [size_alloc, size_setB, size_drew]; omega)) _ | refine Ext.trans ?_ (by assumption)))⟩)
                | (rw [undo_An (by unfold Entry.isA; omega) (by omega)]; exact ⟨rfl, VRet.ext hv (by repeat (first | assumption | exact Ext.refl _ | refine Ext.alloc ?_ _ | refine Ext.drew ?_ | refine Ext.setB ?_ (by first | omega | (simp only [size_alloc, size_setB, size_drew]; omega)) _ | refine Ext.trans ?_ (by assumption)))⟩)
                | (rw [undo_Sn (by unfold Entry.isS; omega) (by omega)]; exact ⟨rfl, VRet.ext hv (by repeat (first | assumption | exact Ext.refl _ | refine Ext.alloc ?_ _ | refine Ext.drew ?_ | refine Ext.setB ?_ (by first | omega | (simp only [size_alloc, size_setB, size_drew]; omega)) _ | refine Ext.trans ?_ (by assumption)))⟩)
                | (rw [undo_8n (by omega) (by omega)]; exact ⟨rfl, VRet.ext hv (by repeat (first | assumption | exact Ext.refl _ | refine Ext.alloc ?_ _ | refine Ext.drew ?_ | refine Ext.setB ?_ (by first | omega | (simp only [size_alloc, size_setB, size_drew]; omega)) _ | refine Ext.trans ?_ (by assumption)))⟩)
                | (rw [undo_n (by unfold Entry.isA; omega) (by unfold Entry.isS; omega) (by omega) (by omega) (by omega)]; exact ⟨rfl, VRet.ext hv (by repeat (first | assumption | exact Ext.refl _ | refine Ext.alloc ?_ _ | refine Ext.drew ?_ | refine Ext.setB ?_ (by first | omega | (simp only [size_alloc, size_setB, size_drew]; omega)) _ | refine Ext.trans ?_ (by assumption)))⟩)
                | (exfalso; omega)
              · have hb71p := hb71.h; simp only [al_ete, al_dfn, Bool.not_eq_true', Bool.not_eq_false', al_ne, Bool.not_not, al_nn] at hb71p
                refine W_seq ?_
                refine W_region rfl ?_
                refine WO_p (PS_eql rfl rfl) ?_
                refine WO_p (PS_assign_bool rfl) ?_
                refine WO_nil ?_
                refine thn_normal ?_
                refine W_if rfl (fun hb73 => ?_) (fun hb73 => ?_)
                · have hb73p := hb73.h; simp only [al_ete, al_dfn, Bool.not_eq_true', Bool.not_eq_false', al_ne, Bool.not_not, al_nn] at hb73p
                  refine W_region rfl ?_
                  refine WO_p (PS_move_ptr rfl) ?_
                  refine WO_p (PS_move_ptr rfl) ?_
                  refine WO_p (PS_nilCheck rfl) ?_
                  refine WO_p (PS_fieldAddr 2 Hvad.runUnderlying173 rfl Hvad.sizeOf26 rfl rfl) ?_
                  refine WO_load (.int _ _) Hvad.isAgg26 rfl (Hb.h (by repeat (first | assumption | exact Hb.newY _ _ | refine Hb.alloc ?_ | refine Hb.drew ?_ | refine Hb.ext (by assumption) ?_ | exact Hb.setSameL (by first | omega | (simp only [size_alloc, size_setB, size_drew]; omega)) | exact Hb.setSame (by assumption) | refine Hb.set (by first | omega | (simp only [size_alloc, size_setB, size_drew]; omega)) ?_ ))) (Ce.h (by first | assumption | exact ⟨rfl⟩)) ?_
                  refine WO_p (PS_nilCheck rfl) ?_
                  refine WO_p (PS_fieldAddr 20 Hvad.runUnderlying149 rfl Hvad.sizeOf26 rfl rfl) ?_
                  have hv2 := hv.ext (Ext.drew (Ext.drew (Ext.refl _)))
                  have hr2 := hr.drew.drew
                  refine WO_store1 Hvad.sizeOf26 rfl (v := .int _ _) rfl hr2.h rfl (by omega) rfl ?_
                  obtain ⟨hV, hS⟩ := hv2.wA_nonce hx hab hcap hr2 hrs hrow e.n htj.2.2.1
                  replace hS := VStep.pre (Ext.drew (Ext.drew (Ext.refl _))) hS
                  refine WO_nil ?_
                  refine inBlk_normal ?_
                  refine inBlk_normal ?_
                  refine thn_normal ?_
                  refine W_seq ?_
                  refine W_region rfl ?_
                  refine WO_p (PS_assign_bool rfl) ?_
                  refine WO_nil ?_
                  refine thn_normal ?_
                  refine W_ret ?_
                  refine bodyQ_ret1 Hvad.results268 rfl (.bool _) rfl ?_
                  first
                  | (rw [undo_0 (by omega) h0 hx]; exact ⟨rfl, _, _, hV, hS⟩)
                  | (rw [undo_1 (by omega) h0 hx]; exact ⟨rfl, _, _, hV, hS⟩)
                  | (rw [undo_2 (by omega) h0 hx]; exact ⟨rfl, _, _, hV, hS⟩)
                  | (rw [undo_4 (by omega) h0 hx]; exact ⟨rfl, _, _, hV, hS⟩)
                  | (rw [undo_9 (by omega) h0 hx]; exact ⟨rfl, _, _, hV, hS⟩)
                  | (rw [undo_10 (by omega) h0 hx]; exact ⟨rfl, _, _, hV, hS⟩)
                  | (rw [undo_3 (by omega) h0 hx]; exact ⟨rfl, _, _, hV, hS⟩)
                  | (rw [undo_5 (by omega) h0 hx]; exact ⟨rfl, _, _, hV, hS⟩)
                  | (rw [undo_8 (by omega) h0 hx]; exact ⟨rfl, _, _, hV, hS⟩)
                  | (rw [undo_6 (by omega)]; exact ⟨rfl, _, _, hV, hS⟩)
                  | (rw [undo_7 (by omega) (by omega)]; exact ⟨rfl, _, _, hV, hS⟩)
                  | (rw [undo_7n (by omega) (by omega)]; exact ⟨rfl, VRet.ext hv (by repeat (first | assumption | exact Ext.refl _ | refine Ext.alloc ?_ _ | refine Ext.drew ?_ | refine Ext.setB ?_ (by first | omega | (simp only [size_alloc, size_setB, size_drew]; omega)) _ | refine Ext.trans ?_ (by assumption)))⟩)
                  | (rw [undo_An (by unfold Entry.isA; omega) (by omega)]; exact ⟨rfl, VRet.ext hv (by repeat (first | assumption | exact Ext.refl _ | refine Ext.alloc ?_ _ | refine Ext.drew ?_ | refine Ext.setB ?_ (by first | omega | (simp only [size_alloc, size_setB, size_drew]; omega)) _ | refine Ext.trans ?_ (by assumption)))⟩)
                  | (rw [undo_Sn (by unfold Entry.isS; omega) (by omega)]; exact ⟨rfl, VRet.ext hv (by repeat (first | assumption | exact Ext.refl _ | refine Ext.alloc ?_ _ | refine Ext.drew ?_ | refine Ext.setB ?_ (by first | omega | (simp only [size_alloc, size_setB, size_drew]; omega)) _ | refine Ext.trans ?_ (by assumption)))⟩)
                  | (rw [undo_8n (by omega) (by omega)]; exact ⟨rfl, VRet.ext hv (by repeat (first | assumption | exact Ext.refl _ | refine Ext.alloc ?_ _ | refine Ext.drew ?_ | refine Ext.setB ?_ (by first | omega | (simp only [size_alloc, size_setB, size_drew]; omega)) _ | refine Ext.trans ?_ (by assumption)))⟩)
                  | (rw [undo_n (by unfold Entry.isA; omega) (by unfold Entry.isS; omega) (by omega) (by omega) (by omega)]; exact ⟨rfl, VRet.ext hv (by repeat (first | assumption | exact Ext.refl _ | refine Ext.alloc ?_ _ | refine Ext.drew ?_ | refine Ext.setB ?_ (by first | omega | (simp only [size_alloc, size_setB, size_drew]; omega)) _ | refine Ext.trans ?_ (by assumption)))⟩)
                  | (exfalso; omega)
                · have hb73p := hb73.h; simp only [al_ete, al_dfn, Bool.not_eq_true', Bool.not_eq_false', al_ne, Bool.not_not, al_nn] at hb73p
                  refine W_seq ?_
                  refine W_region rfl ?_
                  refine WO_p (PS_eql rfl rfl) ?_
                  refine WO_p (PS_assign_bool rfl) ?_
                  refine WO_nil ?_
                  refine thn_normal ?_
                  refine W_if rfl (fun hb75 => ?_) (fun hb75 => ?_)
                  · have hb75p := hb75.h; simp only [al_ete, al_dfn, Bool.not_eq_true', Bool.not_eq_false', al_ne, Bool.not_not, al_nn] at hb75p
                    refine W_region rfl ?_
                    refine WO_p (PS_move_ptr rfl) ?_
                    refine WO_p (PS_move_ptr rfl) ?_
                    refine WO_p (PS_nilCheck rfl) ?_
                    refine WO_p (PS_fieldAddr 7 Hvad.runUnderlying173 rfl Hvad.sizeOf32 rfl rfl) ?_
                    refine WO_load (.slice _ _ _) Hvad.isAgg32 rfl (Hb.h (by repeat (first | assumption | exact Hb.newY _ _ | refine Hb.alloc ?_ | refine Hb.drew ?_ | refine Hb.ext (by assumption) ?_ | exact Hb.setSameL (by first | omega | (simp only [size_alloc, size_setB, size_drew]; omega)) | exact Hb.setSame (by assumption) | refine Hb.set (by first | omega | (simp only [size_alloc, size_setB, size_drew]; omega)) ?_ ))) (Ce.h (by first | assumption | exact ⟨rfl⟩)) ?_
                    refine WO_p (PS_nilCheck rfl) ?_
                    refine WO_p (PS_fieldAddr 25 Hvad.runUnderlying149 rfl Hvad.sizeOf32 rfl rfl) ?_
                    have hv2 := hv.ext (Ext.drew (Ext.drew (Ext.refl _)))
                    have hr2 := hr.drew.drew
                    have hbe := hv2.olds e (List.mem_of_getElem? he)
                    refine WO_store1 Hvad.sizeOf32 rfl (v := .slice _ _ _) rfl hr2.h rfl (by omega) rfl ?_
                    obtain ⟨hV, hS⟩ := hv2.wA_code hx hab hcap hr2 hrs hrow e.b hbe
                    replace hS := VStep.pre (Ext.drew (Ext.drew (Ext.refl _))) hS
                    refine WO_nil ?_
                    refine inBlk_normal ?_
                    refine inBlk_normal ?_
                    refine thn_normal ?_
                    refine W_seq ?_
                    refine W_region rfl ?_
                    refine WO_p (PS_assign_bool rfl) ?_
                    refine WO_nil ?_
                    refine thn_normal ?_
                    refine W_ret ?_
                    refine bodyQ_ret1 Hvad.results268 rfl (.bool _) rfl ?_
                    first
                    | (rw [undo_0 (by omega) h0 hx]; exact ⟨rfl, _, _, hV, hS⟩)
                    | (rw [undo_1 (by omega) h0 hx]; exact ⟨rfl, _, _, hV, hS⟩)
                    | (rw [undo_2 (by omega) h0 hx]; exact ⟨rfl, _, _, hV, hS⟩)
                    | (rw [undo_4 (by omega) h0 hx]; exact ⟨rfl, _, _, hV, hS⟩)
                    | (rw [undo_9 (by omega) h0 hx]; exact ⟨rfl, _, _, hV, hS⟩)
                    | (rw [undo_10 (by omega) h0 hx]; exact ⟨rfl, _, _, hV, hS⟩)
                    | (rw [undo_3 (by omega) h0 hx]; exact ⟨rfl, _, _, hV, hS⟩)
                    | (rw [undo_5 (by omega) h0 hx]; exact ⟨rfl, _, _, hV, hS⟩)
                    | (rw [undo_8 (by omega) h0 hx]; exact ⟨rfl, _, _, hV, hS⟩)
                    | (rw [undo_6 (by omega)]; exact ⟨rfl, _, _, hV, hS⟩)
                    | (rw [undo_7 (by omega) (by omega)]; exact ⟨rfl, _, _, hV, hS⟩)
                    | (rw [undo_7n (by omega) (by omega)]; exact ⟨rfl, VRet.ext hv (by repeat (first | assumption | exact Ext.refl _ | refine Ext.alloc ?_ _ | refine Ext.drew ?_ | refine Ext.setB ?_ (by first | omega | (simp only [size_alloc, size_setB, size_drew]; omega)) _ | refine Ext.trans ?_ (by assumption)))⟩)
                    | (rw [undo_An (by unfold Entry.isA; omega) (by omega)]; exact ⟨rfl, VRet.ext hv (by repeat (first | assumption | exact Ext.refl _ | refine Ext.alloc ?_ _ | refine Ext.drew ?_ | refine Ext.setB ?_ (by first | omega | (simp only [size_alloc, size_setB, size_drew]; omega)) _ | refine Ext.trans ?_ (by assumption)))⟩)
                    | (rw [undo_Sn (by unfold Entry.isS; omega) (by omega)]; exact ⟨rfl, VRet.ext hv (by repeat (first | assumption | exact Ext.refl _ | refine Ext.alloc ?_ _ | refine Ext.drew ?_ | refine Ext.setB ?_ (by first | omega | (simp only [size_alloc, size_setB, size_drew]; omega)) _ | refine Ext.trans ?_ (by assumption)))⟩)
                    | (rw [undo_8n (by omega) (by omega)]; exact ⟨rfl, VRet.ext hv (by repeat (first | assumption | exact Ext.refl _ | refine Ext.alloc ?_ _ | refine Ext.drew ?_ | refine Ext.setB ?_ (by first | omega | (simp only [size_alloc, size_setB, size_drew]; omega)) _ | refine Ext.trans ?_ (by assumption)))⟩)
                    | (rw [undo_n (by unfold Entry.isA; omega) (by unfold Entry.isS; omega) (by omega) (by omega) (by omega)]; exact ⟨rfl, VRet.ext hv (by repeat (first | assumption | exact Ext.refl _ | refine Ext.alloc ?_ _ | refine Ext.drew ?_ | refine Ext.setB ?_ (by first | omega | (simp only [size_alloc, size_setB, size_drew]; omega)) _ | refine Ext.trans ?_ (by assumption)))⟩)
                    | (exfalso; omega)
                  · have hb75p := hb75.h; simp only [al_ete, al_dfn, Bool.not_eq_true', Bool.not_eq_false', al_ne, Bool.not_not, al_nn] at hb75p
                    refine W_seq ?_
                    refine W_region rfl ?_
                    refine WO_p (PS_eql rfl rfl) ?_
                    refine WO_p (PS_assign_bool rfl) ?_
                    refine WO_nil ?_
                    refine thn_normal ?_
                    refine W_if rfl (fun hb77 => ?_) (fun hb77 => ?_)
                    · have hb77p := hb77.h; simp only [al_ete, al_dfn, Bool.not_eq_true', Bool.not_eq_false', al_ne, Bool.not_not, al_nn] at hb77p
                      refine W_region rfl ?_
                      refine WO_p (PS_move_ptr rfl) ?_
                      refine WO_p (PS_move_ptr rfl) ?_
                      refine WO_p (PS_nilCheck rfl) ?_
                      refine WO_p (PS_fieldAddr 8 Hvad.runUnderlying173 rfl Hvad.sizeOf4 rfl rfl) ?_
                      refine WO_load (.bool _) Hvad.isAgg4 rfl (Hb.h (by repeat (first | assumption | exact Hb.newY _ _ | refine Hb.alloc ?_ | refine Hb.drew ?_ | refine Hb.ext (by assumption) ?_ | exact Hb.setSameL (by first | omega | (simp only [size_alloc, size_setB, size_drew]; omega)) | exact Hb.setSame (by assumption) | refine Hb.set (by first | omega | (simp only [size_alloc, size_setB, size_drew]; omega)) ?_ ))) (Ce.h (by first | assumption | exact ⟨rfl⟩)) ?_
                      refine WO_p (PS_nilCheck rfl) ?_
                      refine WO_p (PS_fieldAddr 26 Hvad.runUnderlying149 rfl Hvad.sizeOf4 rfl rfl) ?_
                      have hv2 := hv.ext (Ext.drew (Ext.drew (Ext.refl _)))
                      have hr2 := hr.drew.drew
                      refine WO_store1 Hvad.sizeOf4 rfl (v := .bool _) rfl hr2.h rfl (by omega) rfl ?_
                      obtain ⟨hV, hS⟩ := hv2.wA_warm hx hab hcap hr2 hrs hrow e.flag trivial
                      replace hS := VStep.pre (Ext.drew (Ext.drew (Ext.refl _))) hS
                      refine WO_nil ?_
                      refine inBlk_normal ?_
                      refine inBlk_normal ?_
                      refine thn_normal ?_
                      refine W_seq ?_
                      refine W_region rfl ?_
                      refine WO_p (PS_assign_bool rfl) ?_
                      refine WO_nil ?_
                      refine thn_normal ?_
                      refine W_ret ?_
                      refine bodyQ_ret1 Hvad.results268 rfl (.bool _) rfl ?_
                      first
                      | (rw [undo_0 (by omega) h0 hx]; exact ⟨rfl, _, _, hV, hS⟩)
                      | (rw [undo_1 (by omega) h0 hx]; exact ⟨rfl, _, _, hV, hS⟩)
                      | (rw [undo_2 (by omega) h0 hx]; exact ⟨rfl, _, _, hV, hS⟩)
                      | (rw [undo_4 (by omega) h0 hx]; exact ⟨rfl, _, _, hV, hS⟩)
                      | (rw [undo_9 (by omega) h0 hx]; exact ⟨rfl, _, _, hV, hS⟩)
                      | (rw [undo_10 (by omega) h0 hx]; exact ⟨rfl, _, _, hV, hS⟩)
                      | (rw [undo_3 (by omega) h0 hx]; exact ⟨rfl, _, _, hV, hS⟩)
                      | (rw [undo_5 (by omega) h0 hx]; exact ⟨rfl, _, _, hV, hS⟩)
                      | (rw [undo_8 (by omega) h0 hx]; exact ⟨rfl, _, _, hV, hS⟩)
                      | (rw [undo_6 (by omega)]; exact ⟨rfl, _, _, hV, hS⟩)
                      | (rw [undo_7 (by omega) (by omega)]; exact ⟨rfl, _, _, hV, hS⟩)
                      | (rw [undo_7n (by omega) (by omega)]; exact ⟨rfl, VRet.ext hv (by repeat (first | assumption | exact Ext.refl _ | refine Ext.alloc ?_ _ | refine Ext.drew ?_ | refine Ext.setB ?_ (by first | omega | (simp only [size_alloc, size_setB, size_drew]; omega)) _ | refine Ext.trans ?_ (by assumption)))⟩)
                      | (rw [undo_An (by unfold Entry.isA; omega) (by omega)]; exact ⟨rfl, VRet.ext hv (by repeat (first | assumption | exact Ext.refl _ | refine Ext.alloc ?_ _ | refine Ext.drew ?_ | refine Ext.setB ?_ (by first | omega | (simp only [size_alloc, size_setB, size_drew]; omega)) _ | refine Ext.trans ?_ (by assumption)))⟩)
                      | (rw [undo_Sn (by unfold Entry.isS; omega) (by omega)]; exact ⟨rfl, VRet.ext hv (by repeat (first | assumption | exact Ext.refl _ | refine Ext.alloc ?_ _ | refine Ext.drew ?_ | refine Ext.setB ?_ (by first | omega | (simp only [size_alloc, size_setB, size_drew]; omega)) _ | refine Ext.trans ?_ (by assumption)))⟩)
                      | (rw [undo_8n (by omega) (by omega)]; exact ⟨rfl, VRet.ext hv (by repeat (first | assumption | exact Ext.refl _ | refine Ext.alloc ?_ _ | refine Ext.drew ?_ | refine Ext.setB ?_ (by first | omega | (simp only [size_alloc, size_setB, size_drew]; omega)) _ | refine Ext.trans ?_ (by assumption)))⟩)
                      | (rw [undo_n (by unfold Entry.isA; omega) (by unfold Entry.isS; omega) (by omega) (by omega) (by omega)]; exact ⟨rfl, VRet.ext hv (by repeat (first | assumption | exact Ext.refl _ | refine Ext.alloc ?_ _ | refine Ext.drew ?_ | refine Ext.setB ?_ (by first | omega | (simp only [size_alloc, size_setB, size_drew]; omega)) _ | refine Ext.trans ?_ (by assumption)))⟩)
                      | (exfalso; omega)
                    · have hb77p := hb77.h; simp only [al_ete, al_dfn, Bool.not_eq_true', Bool.not_eq_false', al_ne, Bool.not_not, al_nn] at hb77p
                      refine W_seq ?_
                      refine W_region rfl ?_
                      refine WO_p (PS_eql rfl rfl) ?_
                      refine WO_p (PS_assign_bool rfl) ?_
                      refine WO_nil ?_
                      refine thn_normal ?_
                      refine W_if rfl (fun hb80 => ?_) (fun hb80 => ?_)
                      · have hb80p := hb80.h; simp only [al_ete, al_dfn, Bool.not_eq_true', Bool.not_eq_false', al_ne, Bool.not_not, al_nn] at hb80p
                        refine W_region rfl ?_
                        refine WO_p (PS_move_ptr rfl) ?_
                        refine WO_p (PS_move_ptr rfl) ?_
                        refine WO_p (PS_nilCheck rfl) ?_
                        refine WO_p (PS_fieldAddr 8 Hvad.runUnderlying173 rfl Hvad.sizeOf4 rfl rfl) ?_
                        refine WO_load (.bool _) Hvad.isAgg4 rfl (Hb.h (by repeat (first | assumption | exact Hb.newY _ _ | refine Hb.alloc ?_ | refine Hb.drew ?_ | refine Hb.ext (by assumption) ?_ | exact Hb.setSameL (by first | omega | (simp only [size_alloc, size_setB, size_drew]; omega)) | exact Hb.setSame (by assumption) | refine Hb.set (by first | omega | (simp only [size_alloc, size_setB, size_drew]; omega)) ?_ ))) (Ce.h (by first | assumption | exact ⟨rfl⟩)) ?_
                        refine WO_p (PS_nilCheck rfl) ?_
                        refine WO_p (PS_fieldAddr 27 Hvad.runUnderlying149 rfl Hvad.sizeOf4 rfl rfl) ?_
                        have hv2 := hv.ext (Ext.drew (Ext.drew (Ext.refl _)))
                        have hr2 := hr.drew.drew
                        refine WO_store1 Hvad.sizeOf4 rfl (v := .bool _) rfl hr2.h rfl (by omega) rfl ?_
                        obtain ⟨hV, hS⟩ := hv2.wA_made hx hab hcap hr2 hrs hrow e.flag trivial
                        replace hS := VStep.pre (Ext.drew (Ext.drew (Ext.refl _))) hS
                        refine WO_nil ?_
                        refine inBlk_normal ?_
                        refine inBlk_normal ?_
                        refine thn_normal ?_
                        refine W_seq ?_
                        refine W_region rfl ?_
                        refine WO_p (PS_assign_bool rfl) ?_
                        refine WO_nil ?_
                        refine thn_normal ?_
                        refine W_ret ?_
                        refine bodyQ_ret1 Hvad.results268 rfl (.bool _) rfl ?_
                        first
                        | (rw [undo_0 (by omega) h0 hx]; exact ⟨rfl, _, _, hV, hS⟩)
                        | (rw [undo_1 (by omega) h0 hx]; exact ⟨rfl, _, _, hV, hS⟩)
                        | (rw [undo_2 (by omega) h0 hx]; exact ⟨rfl, _, _, hV, hS⟩)
                        | (rw [undo_4 (by omega) h0 hx]; exact ⟨rfl, _, _, hV, hS⟩)
                        | (rw [undo_9 (by omega) h0 hx]; exact ⟨rfl, _, _, hV, hS⟩)
                        | (rw [undo_10 (by omega) h0 hx]; exact ⟨rfl, _, _, hV, hS⟩)
                        | (rw [undo_3 (by omega) h0 hx]; exact ⟨rfl, _, _, hV, hS⟩)
                        | (rw [undo_5 (by omega) h0 hx]; exact ⟨rfl, _, _, hV, hS⟩)
                        | (rw [undo_8 (by omega) h0 hx]; exact ⟨rfl, _, _, hV, hS⟩)
                        | (rw [undo_6 (by omega)]; exact ⟨rfl, _, _, hV, hS⟩)
                        | (rw [undo_7 (by omega) (by omega)]; exact ⟨rfl, _, _, hV, hS⟩)
                        | (rw [undo_7n (by omega) (by omega)]; exact ⟨rfl, VRet.ext hv (by repeat (first | assumption | exact Ext.refl _ | refine Ext.alloc ?_ _ | refine Ext.drew ?_ | refine Ext.setB ?_ (by first | omega | (simp only [size_alloc, size_setB, size_drew]; omega)) _ | refine Ext.trans ?_ (by assumption)))⟩)
                        | (rw [undo_An (by unfold Entry.isA; omega) (by omega)]; exact ⟨rfl, VRet.ext hv (by repeat (first | assumption | exact Ext.refl _ | refine Ext.alloc ?_ _ | refine Ext.drew ?_ | refine Ext.setB ?_ (by first | omega | (simp only [size_alloc, size_setB, size_drew]; omega)) _ | refine Ext.trans ?_ (by assumption)))⟩)
                        | (rw [undo_Sn (by unfold Entry.isS; omega) (by omega)]; exact ⟨rfl, VRet.ext hv (by repeat (first | assumption | exact Ext.refl _ | refine Ext.alloc ?_ _ | refine Ext.drew ?_ | refine Ext.setB ?_ (by first | omega | (simp only [size_alloc, size_setB, size_drew]; omega)) _ | refine Ext.trans ?_ (by assumption)))⟩)
                        | (rw [undo_8n (by omega) (by omega)]; exact ⟨rfl, VRet.ext hv (by repeat (first | assumption | exact Ext.refl _ | refine Ext.alloc ?_ _ | refine Ext.drew ?_ | refine Ext.setB ?_ (by first | omega | (simp only [size_alloc, size_setB, size_drew]; omega)) _ | refine Ext.trans ?_ (by assumption)))⟩)
                        | (rw [undo_n (by unfold Entry.isA; omega) (by unfold Entry.isS; omega) (by omega) (by omega) (by omega)]; exact ⟨rfl, VRet.ext hv (by repeat (first | assumption | exact Ext.refl _ | refine Ext.alloc ?_ _ | refine Ext.drew ?_ | refine Ext.setB ?_ (by first | omega | (simp only [size_alloc, size_setB, size_drew]; omega)) _ | refine Ext.trans ?_ (by assumption)))⟩)
                        | (exfalso; omega)
                      · have hb80p := hb80.h; simp only [al_ete, al_dfn, Bool.not_eq_true', Bool.not_eq_false', al_ne, Bool.not_not, al_nn] at hb80p
                        refine W_seq ?_
                        refine W_region rfl ?_
                        refine WO_p (PS_eql rfl rfl) ?_
                        refine WO_p (PS_assign_bool rfl) ?_
                        refine WO_nil ?_
                        refine thn_normal ?_
                        refine W_if rfl (fun hb83 => ?_) (fun hb83 => ?_)
                        · have hb83p := hb83.h; simp only [al_ete, al_dfn, Bool.not_eq_true', Bool.not_eq_false', al_ne, Bool.not_not, al_nn] at hb83p
                          refine W_region rfl ?_
                          refine WO_p (PS_move_ptr rfl) ?_
                          refine WO_p (PS_move_ptr rfl) ?_
                          refine WO_p (PS_nilCheck rfl) ?_
                          refine WO_p (PS_fieldAddr 8 Hvad.runUnderlying173 rfl Hvad.sizeOf4 rfl rfl) ?_
                          refine WO_load (.bool _) Hvad.isAgg4 rfl (Hb.h (by repeat (first | assumption | exact Hb.newY _ _ | refine Hb.alloc ?_ | refine Hb.drew ?_ | refine Hb.ext (by assumption) ?_ | exact Hb.setSameL (by first | omega | (simp only [size_alloc, size_setB, size_drew]; omega)) | exact Hb.setSame (by assumption) | refine Hb.set (by first | omega | (simp only [size_alloc, size_setB, size_drew]; omega)) ?_ ))) (Ce.h (by first | assumption | exact ⟨rfl⟩)) ?_
                          refine WO_p (PS_nilCheck rfl) ?_
                          refine WO_p (PS_fieldAddr 28 Hvad.runUnderlying149 rfl Hvad.sizeOf4 rfl rfl) ?_
                          have hv2 := hv.ext (Ext.drew (Ext.drew (Ext.refl _)))
                          have hr2 := hr.drew.drew
                          refine WO_store1 Hvad.sizeOf4 rfl (v := .bool _) rfl hr2.h rfl (by omega) rfl ?_
                          obtain ⟨hV, hS⟩ := hv2.wA_gone hx hab hcap hr2 hrs hrow e.flag trivial
                          replace hS := VStep.pre (Ext.drew (Ext.drew (Ext.refl _))) hS
                          refine WO_nil ?_
                          refine inBlk_normal ?_
                          refine inBlk_normal ?_
                          refine thn_normal ?_
                          refine W_seq ?_
                          refine W_region rfl ?_
                          refine WO_p (PS_assign_bool rfl) ?_
                          refine WO_nil ?_
                          refine thn_normal ?_
                          refine W_ret ?_
                          refine bodyQ_ret1 Hvad.results268 rfl (.bool _) rfl ?_
                          first
                          | (rw [undo_0 (by omega) h0 hx]; exact ⟨rfl, _, _, hV, hS⟩)
                          | (rw [undo_1 (by omega) h0 hx]; exact ⟨rfl, _, _, hV, hS⟩)
                          | (rw [undo_2 (by omega) h0 hx]; exact ⟨rfl, _, _, hV, hS⟩)
                          | (rw [undo_4 (by omega) h0 hx]; exact ⟨rfl, _, _, hV, hS⟩)
                          | (rw [undo_9 (by omega) h0 hx]; exact ⟨rfl, _, _, hV, hS⟩)
                          | (rw [undo_10 (by omega) h0 hx]; exact ⟨rfl, _, _, hV, hS⟩)
                          | (rw [undo_3 (by omega) h0 hx]; exact ⟨rfl, _, _, hV, hS⟩)
                          | (rw [undo_5 (by omega) h0 hx]; exact ⟨rfl, _, _, hV, hS⟩)
                          | (rw [undo_8 (by omega) h0 hx]; exact ⟨rfl, _, _, hV, hS⟩)
                          | (rw [undo_6 (by omega)]; exact ⟨rfl, _, _, hV, hS⟩)
                          | (rw [undo_7 (by omega) (by omega)]; exact ⟨rfl, _, _, hV, hS⟩)
                          | (rw [undo_7n (by omega) (by omega)]; exact ⟨rfl, VRet.ext hv (by repeat (first | assumption | exact Ext.refl _ | refine Ext.alloc ?_ _ | refine Ext.drew ?_ | refine Ext.setB ?_ (by first | omega | (simp only [size_alloc, size_setB, size_drew]; omega)) _ | refine Ext.trans ?_ (by assumption)))⟩)
                          | (rw [undo_An (by unfold Entry.isA; omega) (by omega)]; exact ⟨rfl, VRet.ext hv (by repeat (first | assumption | exact Ext.refl _ | refine Ext.alloc ?_ _ | refine Ext.drew ?_ | refine Ext.setB ?_ (by first | omega | (simp only [size_alloc, size_setB, size_drew]; omega)) _ | refine Ext.trans ?_ (by assumption)))⟩)
                          | (rw [undo_Sn (by unfold Entry.isS; omega) (by omega)]; exact ⟨rfl, VRet.ext hv (by repeat (first | assumption | exact Ext.refl _ | refine Ext.alloc ?_ _ | refine Ext.drew ?_ | refine Ext.setB ?_ (by first | omega | (simp only [size_alloc, size_setB, size_drew]; omega)) _ | refine Ext.trans ?_ (by assumption)))⟩)
                          | (rw [undo_8n (by omega) (by omega)]; exact ⟨rfl, VRet.ext hv (by repeat (first | assumption | exact Ext.refl _ | refine Ext.alloc ?_ _ | refine Ext.drew ?_ | refine Ext.setB ?_ (by first | omega | (simp only [size_alloc, size_setB, size_drew]; omega)) _ | refine Ext.trans ?_ (by assumption)))⟩)
                          | (rw [undo_n (by unfold Entry.isA; omega) (by unfold Entry.isS; omega) (by omega) (by omega) (by omega)]; exact ⟨rfl, VRet.ext hv (by repeat (first | assumption | exact Ext.refl _ | refine Ext.alloc ?_ _ | refine Ext.drew ?_ | refine Ext.setB ?_ (by first | omega | (simp only [size_alloc, size_setB, size_drew]; omega)) _ | refine Ext.trans ?_ (by assumption)))⟩)
                          | (exfalso; omega)
                        · have hb83p := hb83.h; simp only [al_ete, al_dfn, Bool.not_eq_true', Bool.not_eq_false', al_ne, Bool.not_not, al_nn] at hb83p
                          refine W_skip ?_
                          refine inBlk_normal ?_
                          refine inBlk_normal ?_
                          refine thn_normal ?_
                          refine W_seq ?_
                          refine W_region rfl ?_
                          refine WO_p (PS_assign_bool rfl) ?_
                          refine WO_nil ?_
                          refine thn_normal ?_
                          refine W_ret ?_
                          refine bodyQ_ret1 Hvad.results268 rfl (.bool _) rfl ?_
                          first
                          | (rw [undo_0 (by omega) h0 hx]; exact ⟨rfl, _, _, hV, hS⟩)
                          | (rw [undo_1 (by omega) h0 hx]; exact ⟨rfl, _, _, hV, hS⟩)
                          | (rw [undo_2 (by omega) h0 hx]; exact ⟨rfl, _, _, hV, hS⟩)
                          | (rw [undo_4 (by omega) h0 hx]; exact ⟨rfl, _, _, hV, hS⟩)
                          | (rw [undo_9 (by omega) h0 hx]; exact ⟨rfl, _, _, hV, hS⟩)
                          | (rw [undo_10 (by omega) h0 hx]; exact ⟨rfl, _, _, hV, hS⟩)
                          | (rw [undo_3 (by omega) h0 hx]; exact ⟨rfl, _, _, hV, hS⟩)
                          | (rw [undo_5 (by omega) h0 hx]; exact ⟨rfl, _, _, hV, hS⟩)
                          | (rw [undo_8 (by omega) h0 hx]; exact ⟨rfl, _, _, hV, hS⟩)
                          | (rw [undo_6 (by omega)]; exact ⟨rfl, _, _, hV, hS⟩)
                          | (rw [undo_7 (by omega) (by omega)]; exact ⟨rfl, _, _, hV, hS⟩)
                          | (rw [undo_7n (by omega) (by omega)]; exact ⟨rfl, VRet.ext hv (by repeat (first | assumption | exact Ext.refl _ | refine Ext.alloc ?_ _ | refine Ext.drew ?_ | refine Ext.setB ?_ (by first | omega | (simp only [size_alloc, size_setB, size_drew]; omega)) _ | refine Ext.trans ?_ (by assumption)))⟩)
                          | (rw [undo_An (by unfold Entry.isA; omega) (by omega)]; exact ⟨rfl, VRet.ext hv (by repeat (first | assumption | exact Ext.refl _ | refine Ext.alloc ?_ _ | refine Ext.drew ?_ | refine Ext.setB ?_ (by first | omega | (simp only [size_alloc, size_setB, size_drew]; omega)) _ | refine Ext.trans ?_ (by assumption)))⟩)
                          | (rw [undo_Sn (by unfold Entry.isS; omega) (by omega)]; exact ⟨rfl, VRet.ext hv (by repeat (first | assumption | exact Ext.refl _ | refine Ext.alloc ?_ _ | refine Ext.drew ?_ | refine Ext.setB ?_ (by first | omega | (simp only [size_alloc, size_setB, size_drew]; omega)) _ | refine Ext.trans ?_ (by assumption)))⟩)
                          | (rw [undo_8n (by omega) (by omega)]; exact ⟨rfl, VRet.ext hv (by repeat (first | assumption | exact Ext.refl _ | refine Ext.alloc ?_ _ | refine Ext.drew ?_ | refine Ext.setB ?_ (by first | omega | (simp only [size_alloc, size_setB, size_drew]; omega)) _ | refine Ext.trans ?_ (by assumption)))⟩)
                          | (rw [undo_n (by unfold Entry.isA; omega) (by unfold Entry.isS; omega) (by omega) (by omega) (by omega)]; exact ⟨rfl, VRet.ext hv (by repeat (first | assumption | exact Ext.refl _ | refine Ext.alloc ?_ _ | refine Ext.drew ?_ | refine Ext.setB ?_ (by first | omega | (simp only [size_alloc, size_setB, size_drew]; omega)) _ | refine Ext.trans ?_ (by assumption)))⟩)
                          | (exfalso; omega)
        · have hb65p := hb65.h; simp only [al_ete, al_dfn, Bool.not_eq_true', Bool.not_eq_false', al_ne, Bool.not_not, al_nn] at hb65p
          refine W_seq ?_
          refine W_region rfl ?_
          refine WO_p (PS_eql rfl rfl) ?_
          refine WO_p (PS_assign_bool rfl) ?_
          refine WO_nil ?_
          refine thn_normal ?_
          refine W_if rfl (fun hb86 => ?_) (fun hb86 => ?_)
          · have hb86p := hb86.h; simp only [al_ete, al_dfn, Bool.not_eq_true', Bool.not_eq_false', al_ne, Bool.not_not, al_nn] at hb86p
            refine W_skip ?_
            refine thn_normal ?_
            refine W_condT rfl hb86.h ?_
            refine W_seq ?_
            refine W_seq ?_
            refine W_drawE [false, false, false, false, false, false, false, false, false, false, false, false, false, false, false, false, false, false] hmix (by kernel_rfl) rfl ?_
            refine WH_p (PS_move_ptr rfl) rfl ?_
            refine WH_p (PS_nilCheck rfl) rfl ?_
            refine WH_p (PS_fieldAddr 1 Hvad.runUnderlying173 rfl Hvad.sizeOf21 rfl rfl) rfl ?_
            refine WH_load (.int _ _) Hvad.isAgg21 rfl (Hb.h (by repeat (first | assumption | exact Hb.newY _ _ | refine Hb.alloc ?_ | refine Hb.drew ?_ | refine Hb.ext (by assumption) ?_ | exact Hb.setSameL (by first | omega | (simp only [size_alloc, size_setB, size_drew]; omega)) | exact Hb.setSame (by assumption) | refine Hb.set (by first | omega | (simp only [size_alloc, size_setB, size_drew]; omega)) ?_ ))) (Ce.h (by first | assumption | exact ⟨rfl⟩)) ?_
            refine WH_p (PS_lss rfl rfl) rfl ?_
            refine WH_p (PS_move_bool rfl) rfl ?_
            refine WH_if (t := 22) rfl (fun hb88 => ?_) (fun hb88 => ?_)
            · have hb88p := hb88.h; simp only [al_ete, al_dfn, Bool.not_eq_true', Bool.not_eq_false', al_ne, Bool.not_not, al_nn] at hb88p
              refine WH_guardF rfl rfl hb88.h ?_
              refine WH_guardF rfl rfl hb88.h ?_
              refine WH_guardF rfl rfl hb88.h ?_
              refine WH_guardF rfl rfl hb88.h ?_
              refine WH_guardF rfl rfl hb88.h ?_
              refine WH_guardF rfl rfl hb88.h ?_
              refine WH_guardF rfl rfl hb88.h ?_
              refine WH_guardF rfl rfl hb88.h ?_
              refine WH_guardF rfl rfl hb88.h ?_
              refine WH_guardF rfl rfl hb88.h ?_
              refine WH_guardF rfl rfl hb88.h ?_
              refine WH_p (PS_pickT rfl hb88.h rfl) rfl ?_
              refine WH_nil ?_
              refine thn_normal ?_
              refine W_condT rfl rfl ?_
              refine W_seq ?_
              refine W_region rfl ?_
              refine WO_p (PS_assign_bool rfl) ?_
              refine WO_nil ?_
              refine thn_normal ?_
              refine W_ret ?_
              refine thn_ret ?_
              refine inBlk_ret ?_
              refine thn_ret ?_
              refine bodyQ_ret1 Hvad.results268 rfl (.bool _) rfl ?_
              first
              | (rw [undo_0 (by omega) h0 hx]; exact ⟨rfl, _, _, hV, hS⟩)
              | (rw [undo_1 (by omega) h0 hx]; exact ⟨rfl, _, _, hV, hS⟩)
              | (rw [undo_2 (by omega) h0 hx]; exact ⟨rfl, _, _, hV, hS⟩)
              | (rw [undo_4 (by omega) h0 hx]; exact ⟨rfl, _, _, hV, hS⟩)
              | (rw [undo_9 (by omega) h0 hx]; exact ⟨rfl, _, _, hV, hS⟩)
              | (rw [undo_10 (by omega) h0 hx]; exact ⟨rfl, _, _, hV, hS⟩)
              | (rw [undo_3 (by omega) h0 hx]; exact ⟨rfl, _, _, hV, hS⟩)
              | (rw [undo_5 (by omega) h0 hx]; exact ⟨rfl, _, _, hV, hS⟩)
              | (rw [undo_8 (by omega) h0 hx]; exact ⟨rfl, _, _, hV, hS⟩)
              | (rw [undo_6 (by omega)]; exact ⟨rfl, _, _, hV, hS⟩)
              | (rw [undo_7 (by omega) (by omega)]; exact ⟨rfl, _, _, hV, hS⟩)
              | (rw [undo_7n (by omega) (by omega)]; exact ⟨rfl, VRet.ext hv (by repeat (first | assumption | exact Ext.refl _ | refine Ext.alloc ?_ _ | refine Ext.drew ?_ | refine Ext.setB ?_ (by first | omega | (simp only [size_alloc, size_setB, size_drew]; omega)) _ | refine Ext.trans ?_ (by assumption)))⟩)
              | (rw [undo_An (by unfold Entry.isA; omega) (by omega)]; exact ⟨rfl, VRet.ext hv (by repeat (first | assumption | exact Ext.refl _ | refine Ext.alloc ?_ _ | refine Ext.drew ?_ | refine Ext.setB ?_ (by first | omega | (simp only [size_alloc, size_setB, size_drew]; omega)) _ | refine Ext.trans ?_ (by assumption)))⟩)
              | (rw [undo_Sn (by unfold Entry.isS; omega) (by omega)]; exact ⟨rfl, VRet.ext hv (by repeat (first | assumption | exact Ext.refl _ | refine Ext.alloc ?_ _ | refine Ext.drew ?_ | refine Ext.setB ?_ (by first | omega | (simp only [size_alloc, size_setB, size_drew]; omega)) _ | refine Ext.trans ?_ (by assumption)))⟩)
              | (rw [undo_8n (by omega) (by omega)]; exact ⟨rfl, VRet.ext hv (by repeat (first | assumption | exact Ext.refl _ | refine Ext.alloc ?_ _ | refine Ext.drew ?_ | refine Ext.setB ?_ (by first | omega | (simp only [size_alloc, size_setB, size_drew]; omega)) _ | refine Ext.trans ?_ (by assumption)))⟩)
              | (rw [undo_n (by unfold Entry.isA; omega) (by unfold Entry.isS; omega) (by omega) (by omega) (by omega)]; exact ⟨rfl, VRet.ext hv (by repeat (first | assumption | exact Ext.refl _ | refine Ext.alloc ?_ _ | refine Ext.drew ?_ | refine Ext.setB ?_ (by first | omega | (simp only [size_alloc, size_setB, size_drew]; omega)) _ | refine Ext.trans ?_ (by assumption)))⟩)
              | (exfalso; omega)
            · have hb88p := hb88.h; simp only [al_ete, al_dfn, Bool.not_eq_true', Bool.not_eq_false', al_ne, Bool.not_not, al_nn] at hb88p
              refine WH_guardT rfl rfl hb88.h ?_
              refine WH_p (PS_move_ptr rfl) rfl ?_
              refine WH_guardT rfl rfl hb88.h ?_
              refine WH_p (PS_nilCheck rfl) rfl ?_
              refine WH_guardT rfl rfl hb88.h ?_
              refine WH_p (PS_fieldAddr 1 Hvad.runUnderlying173 rfl Hvad.sizeOf21 rfl rfl) rfl ?_
              refine WH_guardT rfl rfl hb88.h ?_
              refine WH_load (.int _ _) Hvad.isAgg21 rfl (Hb.h (by repeat (first | assumption | exact Hb.newY _ _ | refine Hb.alloc ?_ | refine Hb.drew ?_ | refine Hb.ext (by assumption) ?_ | exact Hb.setSameL (by first | omega | (simp only [size_alloc, size_setB, size_drew]; omega)) | exact Hb.setSame (by assumption) | refine Hb.set (by first | omega | (simp only [size_alloc, size_setB, size_drew]; omega)) ?_ ))) (Ce.h (by first | assumption | exact ⟨rfl⟩)) ?_
              refine WH_guardT rfl rfl hb88.h ?_
              refine WH_p (PS_conv_i64n Hvad.runUnderlying21 Hvad.runUnderlying3 rfl (by omega) (by omega)) rfl ?_
              refine WH_guardT rfl rfl hb88.h ?_
              refine WH_p (PS_move_ptr rfl) rfl ?_
              refine WH_guardT rfl rfl hb88.h ?_
              refine WH_p (PS_nilCheck rfl) rfl ?_
              refine WH_guardT rfl rfl hb88.h ?_
              refine WH_p (PS_fieldAddr 0 Hvad.runUnderlying79 rfl Hvad.sizeOf70 rfl rfl) rfl ?_
              refine WH_guardT rfl rfl hb88.h ?_
              refine WH_load (.slice _ _ _) Hvad.isAgg70 rfl (Hb.h (by repeat (first | assumption | exact Hb.newY _ _ | refine Hb.alloc ?_ | refine Hb.drew ?_ | refine Hb.ext (by assumption) ?_ | exact Hb.setSameL (by first | omega | (simp only [size_alloc, size_setB, size_drew]; omega)) | exact Hb.setSame (by assumption) | refine Hb.set (by first | omega | (simp only [size_alloc, size_setB, size_drew]; omega)) ?_ ))) (Ce.h (by first | assumption | exact ⟨rfl⟩)) ?_
              refine WH_guardT rfl rfl hb88.h ?_
              refine WH_p (PS_lenS Hvad.runUnderlying70 rfl) rfl ?_
              refine WH_guardT rfl rfl hb88.h ?_
              refine WH_p (PS_geq rfl rfl) rfl ?_
              refine WH_p (PS_pickF rfl hb88.h rfl) rfl ?_
              refine WH_nil ?_
              refine thn_normal ?_
              refine W_if rfl (fun hb90 => ?_) (fun hb90 => ?_)
              · have hb90p := hb90.h; simp only [al_ete, al_dfn, Bool.not_eq_true', Bool.not_eq_false', al_ne, Bool.not_not, al_nn] at hb90p
                refine W_seq ?_
                refine W_region rfl ?_
                refine WO_p (PS_assign_bool rfl) ?_
                refine WO_nil ?_
                refine thn_normal ?_
                refine W_ret ?_
                refine thn_ret ?_
                refine inBlk_ret ?_
                refine thn_ret ?_
                refine bodyQ_ret1 Hvad.results268 rfl (.bool _) rfl ?_
                first
                | (rw [undo_0 (by omega) h0 hx]; exact ⟨rfl, _, _, hV, hS⟩)
                | (rw [undo_1 (by omega) h0 hx]; exact ⟨rfl, _, _, hV, hS⟩)
                | (rw [undo_2 (by omega) h0 hx]; exact ⟨rfl, _, _, hV, hS⟩)
                | (rw [undo_4 (by omega) h0 hx]; exact ⟨rfl, _, _, hV, hS⟩)
                | (rw [undo_9 (by omega) h0 hx]; exact ⟨rfl, _, _, hV, hS⟩)
                | (rw [undo_10 (by omega) h0 hx]; exact ⟨rfl, _, _, hV, hS⟩)
                | (rw [undo_3 (by omega) h0 hx]; exact ⟨rfl, _, _, hV, hS⟩)
                | (rw [undo_5 (by omega) h0 hx]; exact ⟨rfl, _, _, hV, hS⟩)
                | (rw [undo_8 (by omega) h0 hx]; exact ⟨rfl, _, _, hV, hS⟩)
                | (rw [undo_6 (by omega)]; exact ⟨rfl, _, _, hV, hS⟩)
                | (rw [undo_7 (by omega) (by omega)]; exact ⟨rfl, _, _, hV, hS⟩)
                | (rw [undo_7n (by omega) (by omega)]; exact ⟨rfl, VRet.ext hv (by repeat (first | assumption | exact Ext.refl _ | refine Ext.alloc ?_ _ | refine Ext.drew ?_ | refine Ext.setB ?_ (by first | omega | (simp only [size_alloc, size_setB, size_drew]; omega)) _ | refine Ext.trans ?_ (by assumption)))⟩)
                | (rw [undo_An (by unfold Entry.isA; omega) (by omega)]; exact ⟨rfl, VRet.ext hv (by repeat (first | assumption | exact Ext.refl _ | refine Ext.alloc ?_ _ | refine Ext.drew ?_ | refine Ext.setB ?_ (by first | omega | (simp only [size_alloc, size_setB, size_drew]; omega)) _ | refine Ext.trans ?_ (by assumption)))⟩)
                | (rw [undo_Sn (by unfold Entry.isS; omega) (by omega)]; exact ⟨rfl, VRet.ext hv (by repeat (first | assumption | exact Ext.refl _ | refine Ext.alloc ?_ _ | refine Ext.drew ?_ | refine Ext.setB ?_ (by first | omega | (simp only [size_alloc, size_setB, size_drew]; omega)) _ | refine Ext.trans ?_ (by assumption)))⟩)
                | (rw [undo_8n (by omega) (by omega)]; exact ⟨rfl, VRet.ext hv (by repeat (first | assumption | exact Ext.refl _ | refine Ext.alloc ?_ _ | refine Ext.drew ?_ | refine Ext.setB ?_ (by first | omega | (simp only [size_alloc, size_setB, size_drew]; omega)) _ | refine Ext.trans ?_ (by assumption)))⟩)
                | (rw [undo_n (by unfold Entry.isA; omega) (by unfold Entry.isS; omega) (by omega) (by omega) (by omega)]; exact ⟨rfl, VRet.ext hv (by repeat (first | assumption | exact Ext.refl _ | refine Ext.alloc ?_ _ | refine Ext.drew ?_ | refine Ext.setB ?_ (by first | omega | (simp only [size_alloc, size_setB, size_drew]; omega)) _ | refine Ext.trans ?_ (by assumption)))⟩)
                | (exfalso; omega)
              · have hb90p := hb90.h; simp only [al_ete, al_dfn, Bool.not_eq_true', Bool.not_eq_false', al_ne, Bool.not_not, al_nn] at hb90p
                have h0 : 0 ≤ e.at_ := by omega
                obtain ⟨x, hx⟩ : ∃ x, v.accts[e.at_.toNat]? = some x := ⟨_, List.getElem?_eq_getElem (by omega)⟩
                clear hda
                obtain ⟨b, cap, r, hab, hcap, hr, hrs, hrow, hda, hbd, hil, hty, f0, f1, f2, f3, f4, f5, f6⟩ := hv.openA hx
                refine W_skip ?_
                refine thn_normal ?_
                refine W_seq ?_
                refine W_drawE [false, false, false, false, false, false, false, false, false, false] hmix (by kernel_rfl) rfl ?_
                refine WH_p (PS_move_ptr rfl) rfl ?_
                refine WH_p (PS_nilCheck rfl) rfl ?_
                refine WH_p (PS_fieldAddr 0 Hvad.runUnderlying79 rfl Hvad.sizeOf70 rfl rfl) rfl ?_
                refine WH_load (.slice _ _ _) Hvad.isAgg70 rfl (Hb.h (by repeat (first | assumption | exact Hb.newY _ _ | refine Hb.alloc ?_ | refine Hb.drew ?_ | refine Hb.ext (by assumption) ?_ | exact Hb.setSameL (by first | omega | (simp only [size_alloc, size_setB, size_drew]; omega)) | exact Hb.setSame (by assumption) | refine Hb.set (by first | omega | (simp only [size_alloc, size_setB, size_drew]; omega)) ?_ ))) (Ce.h (by first | assumption | exact ⟨rfl⟩)) ?_
                refine WH_p (PS_move_ptr rfl) rfl ?_
                refine WH_p (PS_nilCheck rfl) rfl ?_
                refine WH_p (PS_fieldAddr 1 Hvad.runUnderlying173 rfl Hvad.sizeOf21 rfl rfl) rfl ?_
                refine WH_load (.int _ _) Hvad.isAgg21 rfl (Hb.h (by repeat (first | assumption | exact Hb.newY _ _ | refine Hb.alloc ?_ | refine Hb.drew ?_ | refine Hb.ext (by assumption) ?_ | exact Hb.setSameL (by first | omega | (simp only [size_alloc, size_setB, size_drew]; omega)) | exact Hb.setSame (by assumption) | refine Hb.set (by first | omega | (simp only [size_alloc, size_setB, size_drew]; omega)) ?_ ))) (Ce.h (by first | assumption | exact ⟨rfl⟩)) ?_
                refine WH_p (PS_indexS Hvad.runUnderlying70 Hvad.sizeOf149 rfl rfl (by omega) (by omega)) rfl ?_
                refine WH_p (PS_assign_ptr rfl) rfl ?_
                refine WH_nil ?_
                refine thn_normal ?_
                refine W_seq ?_
                refine W_region rfl ?_
                refine WO_p (PS_move_ptr rfl) ?_
                refine WO_p (PS_nilCheck rfl) ?_
                refine WO_p (PS_fieldAddr 0 Hvad.runUnderlying173 rfl Hvad.sizeOf5 rfl rfl) ?_
                refine WO_load (.int _ _) Hvad.isAgg5 rfl (Hb.h (by repeat (first | assumption | exact Hb.newY _ _ | refine Hb.alloc ?_ | refine Hb.drew ?_ | refine Hb.ext (by assumption) ?_ | exact Hb.setSameL (by first | omega | (simp only [size_alloc, size_setB, size_drew]; omega)) | exact Hb.setSame (by assumption) | refine Hb.set (by first | omega | (simp only [size_alloc, size_setB, size_drew]; omega)) ?_ ))) (Ce.h (by first | assumption | exact ⟨rfl⟩)) ?_
                refine WO_nil ?_
                refine thn_normal ?_
                refine W_block ?_
                refine W_seq ?_
                refine W_region rfl ?_
                refine WO_p (PS_eql rfl rfl) ?_
                refine WO_p (PS_assign_bool rfl) ?_
                refine WO_nil ?_
                refine thn_normal ?_
                refine W_if rfl (fun hb92 => ?_) (fun hb92 => ?_)
                · have hb92p := hb92.h; simp only [al_ete, al_dfn, Bool.not_eq_true', Bool.not_eq_false', al_ne, Bool.not_not, al_nn] at hb92p
                  refine W_region rfl ?_
                  refine WO_p (PS_move_ptr rfl) ?_
                  refine WO_p (PS_move_ptr rfl) ?_
                  refine WO_p (PS_nilCheck rfl) ?_
                  refine WO_p (PS_fieldAddr 3 Hvad.runUnderlying173 rfl Hvad.sizeOf59 rfl rfl) ?_
                  refine WO_loadA _ Hvad.isAgg59 Hvad.sizeOf59 rfl (Hb.h (by repeat (first | assumption | exact Hb.newY _ _ | refine Hb.alloc ?_ | refine Hb.drew ?_ | refine Hb.ext (by assumption) ?_ | exact Hb.setSameL (by first | omega | (simp only [size_alloc, size_setB, size_drew]; omega)) | exact Hb.setSame (by assumption) | refine Hb.set (by first | omega | (simp only [size_alloc, size_setB, size_drew]; omega)) ?_ ))) (by first | omega | assumption | rfl | decide | (simp only [size_ic, Value.cells]; omega) | simp) (Xt.h (by first | assumption | exact Xt.whole rfl rfl | exact Xt.whole rfl (by simp only [size_ic, Value.cells]; omega) | exact ⟨rfl⟩)) ?_
                  refine WO_p (PS_nilCheck rfl) ?_
                  refine WO_p (PS_fieldAddr 21 Hvad.runUnderlying149 rfl Hvad.sizeOf59 rfl rfl) ?_
                  have hv2 := hv.ext (Ext.drew (Ext.drew (Ext.refl _)))
                  have hr2 := hr.drew.drew
                  refine WO_store Hvad.sizeOf59 rfl (v := .agg (ic .u64 e.w)) rfl hr2.h (by first | omega | assumption | rfl | decide | (simp only [size_ic, Value.cells]; omega) | simp) (by omega) (by first | exact oneCell_ic | assumption) ?_
                  obtain ⟨hV, hS⟩ := hv2.wA_bal hx hab hcap hr2 hrs hrow e.w htj.2.2.2
                  replace hS := VStep.pre (Ext.drew (Ext.drew (Ext.refl _))) hS
                  refine WO_nil ?_
                  refine inBlk_normal ?_
                  refine inBlk_normal ?_
                  refine thn_normal ?_
                  refine W_seq ?_
                  refine W_region rfl ?_
                  refine WO_p (PS_assign_bool rfl) ?_
                  refine WO_nil ?_
                  refine thn_normal ?_
                  refine W_ret ?_
                  refine bodyQ_ret1 Hvad.results268 rfl (.bool _) rfl ?_
                  first
                  | (rw [undo_0 (by omega) h0 hx]; exact ⟨rfl, _, _, hV, hS⟩)
                  | (rw [undo_1 (by omega) h0 hx]; exact ⟨rfl, _, _, hV, hS⟩)
                  | (rw [undo_2 (by omega) h0 hx]; exact ⟨rfl, _, _, hV, hS⟩)
                  | (rw [undo_4 (by omega) h0 hx]; exact ⟨rfl, _, _, hV, hS⟩)
                  | (rw [undo_9 (by omega) h0 hx]; exact ⟨rfl, _, _, hV, hS⟩)
                  | (rw [undo_10 (by omega) h0 hx]; exact ⟨rfl, _, _, hV, hS⟩)
                  | (rw [undo_3 (by omega) h0 hx]; exact ⟨rfl, _, _, hV, hS⟩)
                  | (rw [undo_5 (by omega) h0 hx]; exact ⟨rfl, _, _, hV, hS⟩)
                  | (rw [undo_8 (by omega) h0 hx]; exact ⟨rfl, _, _, hV, hS⟩)
                  | (rw [undo_6 (by omega)]; exact ⟨rfl, _, _, hV, hS⟩)
                  | (rw [undo_7 (by omega) (by omega)]; exact ⟨rfl, _, _, hV, hS⟩)
                  | (rw [undo_7n (by omega) (by omega)]; exact ⟨rfl, VRet.ext hv (by repeat (first | assumption | exact Ext.refl _ | refine Ext.alloc ?_ _ | refine Ext.drew ?_ | refine Ext.setB ?_ (by first | omega | (simp only [size_alloc, size_setB, size_drew]; omega)) _ | refine Ext.trans ?_ (by assumption)))⟩)
                  | (rw [undo_An (by unfold Entry.isA; omega) (by omega)]; exact ⟨rfl, VRet.ext hv (by repeat (first | assumption | exact Ext.refl _ | refine Ext.alloc ?_ _ | refine Ext.drew ?_ | refine Ext.setB ?_ (by first | omega | (simp only [size_alloc, size_setB, size_drew]; omega)) _ | refine Ext.trans ?_ (by assumption)))⟩)
                  | (rw [undo_Sn (by unfold Entry.isS; omega) (by omega)]; exact ⟨rfl, VRet.ext hv (by repeat (first | assumption | exact Ext.refl _ | refine Ext.alloc ?_ _ | refine Ext.drew ?_ | refine Ext.setB ?_ (by first | omega | (simp only [size_alloc, size_setB, size_drew]; omega)) _ | refine Ext.trans ?_ (by assumption)))⟩)
                  | (rw [undo_8n (by omega) (by omega)]; exact ⟨rfl, VRet.ext hv (by repeat (first | assumption | exact Ext.refl _ | refine Ext.alloc ?_ _ | refine Ext.drew ?_ | refine Ext.setB ?_ (by first | omega | (simp only [size_alloc, size_setB, size_drew]; omega)) _ | refine Ext.trans ?_ (by assumption)))⟩)
                  | (rw [undo_n (by unfold Entry.isA; omega) (by unfold Entry.isS; omega) (by omega) (by omega) (by omega)]; exact ⟨rfl, VRet.ext hv (by repeat (first | assumption | exact Ext.refl _ | refine Ext.alloc ?_ _ | refine Ext.drew ?_ | refine Ext.setB ?_ (by first | omega | (simp only [size_alloc, size_setB, size_drew]; omega)) _ | refine Ext.trans ?_ (by assumption)))⟩)
                  | (exfalso; omega)
                · have hb92p := hb92.h; simp only [al_ete, al_dfn, Bool.not_eq_true', Bool.not_eq_false', al_ne, Bool.not_not, al_nn] at hb92p
                  refine W_seq ?_
                  refine W_region rfl ?_
                  refine WO_p (PS_eql rfl rfl) ?_
                  refine WO_p (PS_assign_bool rfl) ?_
                  refine WO_nil ?_
                  refine thn_normal ?_
                  refine W_if rfl (fun hb94 => ?_) (fun hb94 => ?_)
                  · have hb94p := hb94.h; simp only [al_ete, al_dfn, Bool.not_eq_true', Bool.not_eq_false', al_ne, Bool.not_not, al_nn] at hb94p
                    refine W_region rfl ?_
                    refine WO_p (PS_move_ptr rfl) ?_
                    refine WO_p (PS_move_ptr rfl) ?_
                    refine WO_p (PS_nilCheck rfl) ?_
                    refine WO_p (PS_fieldAddr 2 Hvad.runUnderlying173 rfl Hvad.sizeOf26 rfl rfl) ?_
                    refine WO_load (.int _ _) Hvad.isAgg26 rfl (Hb.h (by repeat (first | assumption | exact Hb.newY _ _ | refine Hb.alloc ?_ | refine Hb.drew ?_ | refine Hb.ext (by assumption) ?_ | exact Hb.setSameL (by first | omega | (simp only [size_alloc, size_setB, size_drew]; omega)) | exact Hb.setSame (by assumption) | refine Hb.set (by first | omega | (simp only [size_alloc, size_setB, size_drew]; omega)) ?_ ))) (Ce.h (by first | assumption | exact ⟨rfl⟩)) ?_
                    refine WO_p (PS_nilCheck rfl) ?_
                    refine WO_p (PS_fieldAddr 20 Hvad.runUnderlying149 rfl Hvad.sizeOf26 rfl rfl) ?_
                    have hv2 := hv.ext (Ext.drew (Ext.drew (Ext.refl _)))
                    have hr2 := hr.drew.drew
                    refine WO_store1 Hvad.sizeOf26 rfl (v := .int _ _) rfl hr2.h rfl (by omega) rfl ?_
                    obtain ⟨hV, hS⟩ := hv2.wA_nonce hx hab hcap hr2 hrs hrow e.n htj.2.2.1
                    replace hS := VStep.pre (Ext.drew (Ext.drew (Ext.refl _))) hS
                    refine WO_nil ?_
                    refine inBlk_normal ?_
                    refine inBlk_normal ?_
                    refine thn_normal ?_
                    refine W_seq ?_
                    refine W_region rfl ?_
                    refine WO_p (PS_assign_bool rfl) ?_
                    refine WO_nil ?_
                    refine thn_normal ?_
                    refine W_ret ?_
                    refine bodyQ_ret1 Hvad.results268 rfl (.bool _) rfl ?_
                    first
                    | (rw [undo_0 (by omega) h0 hx]; exact ⟨rfl, _, _, hV, hS⟩)
                    | (rw [undo_1 (by omega) h0 hx]; exact ⟨rfl, _, _, hV, hS⟩)
                    | (rw [undo_2 (by omega) h0 hx]; exact ⟨rfl, _, _, hV, hS⟩)
                    | (rw [undo_4 (by omega) h0 hx]; exact ⟨rfl, _, _, hV, hS⟩)
                    | (rw [undo_9 (by omega) h0 hx]; exact ⟨rfl, _, _, hV, hS⟩)
                    | (rw [undo_10 (by omega) h0 hx]; exact ⟨rfl, _, _, hV, hS⟩)
                    | (rw [undo_3 (by omega) h0 hx]; exact ⟨rfl, _, _, hV, hS⟩)
                    | (rw [undo_5 (by omega) h0 hx]; exact ⟨rfl, _, _, hV, hS⟩)
                    | (rw [undo_8 (by omega) h0 hx]; exact ⟨rfl, _, _, hV, hS⟩)
                    | (rw [undo_6 (by omega)]; exact ⟨rfl, _, _, hV, hS⟩)
                    | (rw [undo_7 (by omega) (by omega)]; exact ⟨rfl, _, _, hV, hS⟩)
                    | (rw [undo_7n (by omega) (by omega)]; exact ⟨rfl, VRet.ext hv (by repeat (first | assumption | exact Ext.refl _ | refine Ext.alloc ?_ _ | refine Ext.drew ?_ | refine Ext.setB ?_ (by first | omega | (simp only [size_alloc, size_setB, size_drew]; omega)) _ | refine Ext.trans ?_ (by assumption)))⟩)
                    | (rw [undo_An (by unfold Entry.isA; omega) (by omega)]; exact ⟨rfl, VRet.ext hv (by repeat (first | assumption | exact Ext.refl _ | refine Ext.alloc ?_ _ | refine Ext.drew ?_ | refine Ext.setB ?_ (by first | omega | (simp only [size_alloc, size_setB, size_drew]; omega)) _ | refine Ext.trans ?_ (by assumption)))⟩)
                    | (rw [undo_Sn (by unfold Entry.isS; omega) (by omega)]; exact ⟨rfl, VRet.ext hv (by repeat (first | assumption | exact Ext.refl _ | refine Ext.alloc ?_ _ | refine Ext.drew ?_ | refine Ext.setB ?_ (by first | omega | (simp only [size_alloc, size_setB, size_drew]; omega)) _ | refine Ext.trans ?_ (by assumption)))⟩)
                    | (rw [undo_8n (by omega) (by omega)]; exact ⟨rfl, VRet.ext hv (by repeat (first | assumption | exact Ext.refl _ | refine Ext.alloc ?_ _ | refine Ext.drew ?_ | refine Ext.setB ?_ (by first | omega | (simp only [size_alloc, size_setB, size_drew]; omega)) _ | refine Ext.trans ?_ (by assumption)))⟩)
                    | (rw [undo_n (by unfold Entry.isA; omega) (by unfold Entry.isS; omega) (by omega) (by omega) (by omega)]; exact ⟨rfl, VRet.ext hv (by repeat (first | assumption | exact Ext.refl _ | refine Ext.alloc ?_ _ | refine Ext.drew ?_ | refine Ext.setB ?_ (by first | omega | (simp only [size_alloc, size_setB, size_drew]; omega)) _ | refine Ext.trans ?_ (by assumption)))⟩)
                    | (exfalso; omega)
                  · have hb94p := hb94.h; simp only [al_ete, al_dfn, Bool.not_eq_true', Bool.not_eq_false', al_ne, Bool.not_not, al_nn] at hb94p
                    refine W_seq ?_
                    refine W_region rfl ?_
                    refine WO_p (PS_eql rfl rfl) ?_
                    refine WO_p (PS_assign_bool rfl) ?_
                    refine WO_nil ?_
                    refine thn_normal ?_
                    refine W_if rfl (fun hb96 => ?_) (fun hb96 => ?_)
                    · have hb96p := hb96.h; simp only [al_ete, al_dfn, Bool.not_eq_true', Bool.not_eq_false', al_ne, Bool.not_not, al_nn] at hb96p
                      refine W_region rfl ?_
                      refine WO_p (PS_move_ptr rfl) ?_
                      refine WO_p (PS_move_ptr rfl) ?_
                      refine WO_p (PS_nilCheck rfl) ?_
                      refine WO_p (PS_fieldAddr 7 Hvad.runUnderlying173 rfl Hvad.sizeOf32 rfl rfl) ?_
                      refine WO_load (.slice _ _ _) Hvad.isAgg32 rfl (Hb.h (by repeat (first | assumption | exact Hb.newY _ _ | refine Hb.alloc ?_ | refine Hb.drew ?_ | refine Hb.ext (by assumption) ?_ | exact Hb.setSameL (by first | omega | (simp only [size_alloc, size_setB, size_drew]; omega)) | exact Hb.setSame (by assumption) | refine Hb.set (by first | omega | (simp only [size_alloc, size_setB, size_drew]; omega)) ?_ ))) (Ce.h (by first | assumption | exact ⟨rfl⟩)) ?_
                      refine WO_p (PS_nilCheck rfl) ?_
                      refine WO_p (PS_fieldAddr 25 Hvad.runUnderlying149 rfl Hvad.sizeOf32 rfl rfl) ?_
                      have hv2 := hv.ext (Ext.drew (Ext.drew (Ext.refl _)))
                      have hr2 := hr.drew.drew
                      have hbe := hv2.olds e (List.mem_of_getElem? he)
                      refine WO_store1 Hvad.sizeOf32 rfl (v := .slice _ _ _) rfl hr2.h rfl (by omega) rfl ?_
                      obtain ⟨hV, hS⟩ := hv2.wA_code hx hab hcap hr2 hrs hrow e.b hbe
                      replace hS := VStep.pre (Ext.drew (Ext.drew (Ext.refl _))) hS
                      refine WO_nil ?_
                      refine inBlk_normal ?_
                      refine inBlk_normal ?_
                      refine thn_normal ?_
                      refine W_seq ?_
                      refine W_region rfl ?_
                      refine WO_p (PS_assign_bool rfl) ?_
                      refine WO_nil ?_
                      refine thn_normal ?_
                      refine W_ret ?_
                      refine bodyQ_ret1 Hvad.results268 rfl (.bool _) rfl ?_
                      first
                      | (rw [undo_0 (by omega) h0 hx]; exact ⟨rfl, _, _, hV, hS⟩)
                      | (rw [undo_1 (by omega) h0 hx]; exact ⟨rfl, _, _, hV, hS⟩)
                      | (rw [undo_2 (by omega) h0 hx]; exact ⟨rfl, _, _, hV, hS⟩)
                      | (rw [undo_4 (by omega) h0 hx]; exact ⟨rfl, _, _, hV, hS⟩)
                      | (rw [undo_9 (by omega) h0 hx]; exact ⟨rfl, _, _, hV, hS⟩)
                      | (rw [undo_10 (by omega) h0 hx]; exact ⟨rfl, _, _, hV, hS⟩)
                      | (rw [undo_3 (by omega) h0 hx]; exact ⟨rfl, _, _, hV, hS⟩)
                      | (rw [undo_5 (by omega) h0 hx]; exact ⟨rfl, _, _, hV, hS⟩)
                      | (rw [undo_8 (by omega) h0 hx]; exact ⟨rfl, _, _, hV, hS⟩)
                      | (rw [undo_6 (by omega)]; exact ⟨rfl, _, _, hV, hS⟩)
                      | (rw [undo_7 (by omega) (by omega)]; exact ⟨rfl, _, _, hV, hS⟩)
                      | (rw [undo_7n (by omega) (by omega)]; exact ⟨rfl, VRet.ext hv (by repeat (first | assumption | exact Ext.refl _ | refine Ext.alloc ?_ _ | refine Ext.drew ?_ | refine Ext.setB ?_ (by first | omega | (simp only [size_alloc, size_setB, size_drew]; omega)) _ | refine Ext.trans ?_ (by assumption)))⟩)
                      | (rw [undo_An (by unfold Entry.isA; omega) (by omega)]; exact ⟨rfl, VRet.ext hv (by repeat (first | assumption | exact Ext.refl _ | refine Ext.alloc ?_ _ | refine Ext.drew ?_ | refine Ext.setB ?_ (by first | omega | (simp only [size_alloc, size_setB, size_drew]; omega)) _ | refine Ext.trans ?_ (by assumption)))⟩)
                      | (rw [undo_Sn (by unfold Entry.isS; omega) (by omega)]; exact ⟨rfl, VRet.ext hv (by repeat (first | assumption | exact Ext.refl _ | refine Ext.alloc ?_ _ | refine Ext.drew ?_ | refine Ext.setB ?_ (by first | omega | (simp only [size_alloc, size_setB, size_drew]; omega)) _ | refine Ext.trans ?_ (by assumption)))⟩)
                      | (rw [undo_8n (by omega) (by omega)]; exact ⟨rfl, VRet.ext hv (by repeat (first | assumption | exact Ext.refl _ | refine Ext.alloc ?_ _ | refine Ext.drew ?_ | refine Ext.setB ?_ (by first | omega | (simp only [size_alloc, size_setB, size_drew]; omega)) _ | refine Ext.trans ?_ (by assumption)))⟩)
                      | (rw [undo_n (by unfold Entry.isA; omega) (by unfold Entry.isS; omega) (by omega) (by omega) (by omega)]; exact ⟨rfl, VRet.ext hv (by repeat (first | assumption | exact Ext.refl _ | refine Ext.alloc ?_ _ | refine Ext.drew ?_ | refine Ext.setB ?_ (by first | omega | (simp only [size_alloc, size_setB, size_drew]; omega)) _ | refine Ext.trans ?_ (by assumption)))⟩)
                      | (exfalso; omega)
                    · have hb96p := hb96.h; simp only [al_ete, al_dfn, Bool.not_eq_true', Bool.not_eq_false', al_ne, Bool.not_not, al_nn] at hb96p
                      refine W_seq ?_
                      refine W_region rfl ?_
                      refine WO_p (PS_eql rfl rfl) ?_
                      refine WO_p (PS_assign_bool rfl) ?_
                      refine WO_nil ?_
                      refine thn_normal ?_
                      refine W_if rfl (fun hb98 => ?_) (fun hb98 => ?_)
                      · have hb98p := hb98.h; simp only [al_ete, al_dfn, Bool.not_eq_true', Bool.not_eq_false', al_ne, Bool.not_not, al_nn] at hb98p
                        refine W_region rfl ?_
                        refine WO_p (PS_move_ptr rfl) ?_
                        refine WO_p (PS_move_ptr rfl) ?_
                        refine WO_p (PS_nilCheck rfl) ?_
                        refine WO_p (PS_fieldAddr 8 Hvad.runUnderlying173 rfl Hvad.sizeOf4 rfl rfl) ?_
                        refine WO_load (.bool _) Hvad.isAgg4 rfl (Hb.h (by repeat (first | assumption | exact Hb.newY _ _ | refine Hb.alloc ?_ | refine Hb.drew ?_ | refine Hb.ext (by assumption) ?_ | exact Hb.setSameL (by first | omega | (simp only [size_alloc, size_setB, size_drew]; omega)) | exact Hb.setSame (by assumption) | refine Hb.set (by first | omega | (simp only [size_alloc, size_setB, size_drew]; omega)) ?_ ))) (Ce.h (by first | assumption | exact ⟨rfl⟩)) ?_
                        refine WO_p (PS_nilCheck rfl) ?_
                        refine WO_p (PS_fieldAddr 26 Hvad.runUnderlying149 rfl Hvad.sizeOf4 rfl rfl) ?_
                        have hv2 := hv.ext (Ext.drew (Ext.drew (Ext.refl _)))
                        have hr2 := hr.drew.drew
                        refine WO_store1 Hvad.sizeOf4 rfl (v := .bool _) rfl hr2.h rfl (by omega) rfl ?_
                        obtain ⟨hV, hS⟩ := hv2.wA_warm hx hab hcap hr2 hrs hrow e.flag trivial
                        replace hS := VStep.pre (Ext.drew (Ext.drew (Ext.refl _))) hS
                        refine WO_nil ?_
                        refine inBlk_normal ?_
                        refine inBlk_normal ?_
                        refine thn_normal ?_
                        refine W_seq ?_
                        refine W_region rfl ?_
                        refine WO_p (PS_assign_bool rfl) ?_
                        refine WO_nil ?_
                        refine thn_normal ?_
                        refine W_ret ?_
                        refine bodyQ_ret1 Hvad.results268 rfl (.bool _) rfl ?_
                        first
                        | (rw [undo_0 (by omega) h0 hx]; exact ⟨rfl, _, _, hV, hS⟩)
                        | (rw [undo_1 (by omega) h0 hx]; exact ⟨rfl, _, _, hV, hS⟩)
                        | (rw [undo_2 (by omega) h0 hx]; exact ⟨rfl, _, _, hV, hS⟩)
                        | (rw [undo_4 (by omega) h0 hx]; exact ⟨rfl, _, _, hV, hS⟩)
                        | (rw [undo_9 (by omega) h0 hx]; exact ⟨rfl, _, _, hV, hS⟩)
                        | (rw [undo_10 (by omega) h0 hx]; exact ⟨rfl, _, _, hV, hS⟩)
                        | (rw [undo_3 (by omega) h0 hx]; exact ⟨rfl, _, _, hV, hS⟩)
                        | (rw [undo_5 (by omega) h0 hx]; exact ⟨rfl, _, _, hV, hS⟩)
                        | (rw [undo_8 (by omega) h0 hx]; exact ⟨rfl, _, _, hV, hS⟩)
                        | (rw [undo_6 (by omega)]; exact ⟨rfl, _, _, hV, hS⟩)
                        | (rw [undo_7 (by omega) (by omega)]; exact ⟨rfl, _, _, hV, hS⟩)
                        | (rw [undo_7n (by omega) (by omega)]; exact ⟨rfl, VRet.ext hv (by repeat (first | assumption | exact Ext.refl _ | refine Ext.alloc ?_ _ | refine Ext.drew ?_ | refine Ext.setB ?_ (by first | omega | (simp only [size_alloc, size_setB, size_drew]; omega)) _ | refine Ext.trans ?_ (by assumption)))⟩)
                        | (rw [undo_An (by unfold Entry.isA; omega) (by omega)]; exact ⟨rfl, VRet.ext hv (by repeat (first | assumption | exact Ext.refl _ | refine Ext.alloc ?_ _ | refine Ext.drew ?_ | refine Ext.setB ?_ (by first | omega | (simp only [size_alloc, size_setB, size_drew]; omega)) _ | refine Ext.trans ?_ (by assumption)))⟩)
                        | (rw [undo_Sn (by unfold Entry.isS; omega) (by omega)]; exact ⟨rfl, VRet.ext hv (by repeat (first | assumption | exact Ext.refl _ | refine Ext.alloc ?_ _ | refine Ext.drew ?_ | refine Ext.setB ?_ (by first | omega | (simp only [size_alloc, size_setB, size_drew]; omega)) _ | refine Ext.trans ?_ (by assumption)))⟩)
                        | (rw [undo_8n (by omega) (by omega)]; exact ⟨rfl, VRet.ext hv (by repeat (first | assumption | exact Ext.refl _ | refine Ext.alloc ?_ _ | refine Ext.drew ?_ | refine Ext.setB ?_ (by first | omega | (simp only [size_alloc, size_setB, size_drew]; omega)) _ | refine Ext.trans ?_ (by assumption)))⟩)
                        | (rw [undo_n (by unfold Entry.isA; omega) (by unfold Entry.isS; omega) (by omega) (by omega) (by omega)]; exact ⟨rfl, VRet.ext hv (by repeat (first | assumption | exact Ext.refl _ | refine Ext.alloc ?_ _ | refine Ext.drew ?_ | refine Ext.setB ?_ (by first | omega | (simp only [size_alloc, size_setB, size_drew]; omega)) _ | refine Ext.trans ?_ (by assumption)))⟩)
                        | (exfalso; omega)
                      · have hb98p := hb98.h; simp only [al_ete, al_dfn, Bool.not_eq_true', Bool.not_eq_false', al_ne, Bool.not_not, al_nn] at hb98p
                        refine W_seq ?_
                        refine W_region rfl ?_
                        refine WO_p (PS_eql rfl rfl) ?_
                        refine WO_p (PS_assign_bool rfl) ?_
                        refine WO_nil ?_
                        refine thn_normal ?_
                        refine W_if rfl (fun hb101 => ?_) (fun hb101 => ?_)
                        · have hb101p := hb101.h; simp only [al_ete, al_dfn, Bool.not_eq_true', Bool.not_eq_false', al_ne, Bool.not_not, al_nn] at hb101p
                          refine W_region rfl ?_
                          refine WO_p (PS_move_ptr rfl) ?_
                          refine WO_p (PS_move_ptr rfl) ?_
                          refine WO_p (PS_nilCheck rfl) ?_
                          refine WO_p (PS_fieldAddr 8 Hvad.runUnderlying173 rfl Hvad.sizeOf4 rfl rfl) ?_
                          refine WO_load (.bool _) Hvad.isAgg4 rfl (Hb.h (by repeat (first | assumption | exact Hb.newY _ _ | refine Hb.alloc ?_ | refine Hb.drew ?_ | refine Hb.ext (by assumption) ?_ | exact Hb.setSameL (by first | omega | (simp only [size_alloc, size_setB, size_drew]; omega)) | exact Hb.setSame (by assumption) | refine Hb.set (by first | omega | (simp only [size_alloc, size_setB, size_drew]; omega)) ?_ ))) (Ce.h (by first | assumption | exact ⟨rfl⟩)) ?_
                          refine WO_p (PS_nilCheck rfl) ?_
                          refine WO_p (PS_fieldAddr 27 Hvad.runUnderlying149 rfl Hvad.sizeOf4 rfl rfl) ?_
                          have hv2 := hv.ext (Ext.drew (Ext.drew (Ext.refl _)))
                          have hr2 := hr.drew.drew
                          refine WO_store1 Hvad.sizeOf4 rfl (v := .bool _) rfl hr2.h rfl (by omega) rfl ?_
                          obtain ⟨hV, hS⟩ := hv2.wA_made hx hab hcap hr2 hrs hrow e.flag trivial
                          replace hS := VStep.pre (Ext.drew (Ext.drew (Ext.refl _))) hS
                          refine WO_nil ?_
                          refine inBlk_normal ?_
                          refine inBlk_normal ?_
                          refine thn_normal ?_
                          refine W_seq ?_
                          refine W_region rfl ?_
                          refine WO_p (PS_assign_bool rfl) ?_
                          refine WO_nil ?_
                          refine thn_normal ?_
                          refine W_ret ?_
                          refine bodyQ_ret1 Hvad.results268 rfl (.bool _) rfl ?_
                          first
                          | (rw [undo_0 (by omega) h0 hx]; exact ⟨rfl, _, _, hV, hS⟩)
                          | (rw [undo_1 (by omega) h0 hx]; exact ⟨rfl, _, _, hV, hS⟩)
                          | (rw [undo_2 (by omega) h0 hx]; exact ⟨rfl, _, _, hV, hS⟩)
                          | (rw [undo_4 (by omega) h0 hx]; exact ⟨rfl, _, _, hV, hS⟩)
                          | (rw [undo_9 (by omega) h0 hx]; exact ⟨rfl, _, _, hV, hS⟩)
                          | (rw [undo_10 (by omega) h0 hx]; exact ⟨rfl, _, _, hV, hS⟩)
                          | (rw [undo_3 (by omega) h0 hx]; exact ⟨rfl, _, _, hV, hS⟩)
                          | (rw [undo_5 (by omega) h0 hx]; exact ⟨rfl, _, _, hV, hS⟩)
                          | (rw [undo_8 (by omega) h0 hx]; exact ⟨rfl, _, _, hV, hS⟩)
                          | (rw [undo_6 (by omega)]; exact ⟨rfl, _, _, hV, hS⟩)
                          | (rw [undo_7 (by omega) (by omega)]; exact ⟨rfl, _, _, hV, hS⟩)
                          | (rw [undo_7n (by omega) (by omega)]; exact ⟨rfl, VRet.ext hv (by repeat (first | assumption | exact Ext.refl _ | refine Ext.alloc ?_ _ | refine Ext.drew ?_ | refine Ext.setB ?_ (by first | omega | (simp only [size_alloc, size_setB, size_drew]; omega)) _ | refine Ext.trans ?_ (by assumption)))⟩)
                          | (rw [undo_An (by unfold Entry.isA; omega) (by omega)]; exact ⟨rfl, VRet.ext hv (by repeat (first | assumption | exact Ext.refl _ | refine Ext.alloc ?_ _ | refine Ext.drew ?_ | refine Ext.setB ?_ (by first | omega | (simp only [size_alloc, size_setB, size_drew]; omega)) _ | refine Ext.trans ?_ (by assumption)))⟩)
                          | (rw [undo_Sn (by unfold Entry.isS; omega) (by omega)]; exact ⟨rfl, VRet.ext hv (by repeat (first | assumption | exact Ext.refl _ | refine Ext.alloc ?_ _ | refine Ext.drew ?_ | refine Ext.setB ?_ (by first | omega | (simp only [size_alloc, size_setB, size_drew]; omega)) _ | refine Ext.trans ?_ (by assumption)))⟩)
                          | (rw [undo_8n (by omega) (by omega)]; exact ⟨rfl, VRet.ext hv (by repeat (first | assumption | exact Ext.refl _ | refine Ext.alloc ?_ _ | refine Ext.drew ?_ | refine Ext.setB ?_ (by first | omega | (simp only [size_alloc, size_setB, size_drew]; omega)) _ | refine Ext.trans ?_ (by assumption)))⟩)
                          | (rw [undo_n (by unfold Entry.isA; omega) (by unfold Entry.isS; omega) (by omega) (by omega) (by omega)]; exact ⟨rfl, VRet.ext hv (by repeat (first | assumption | exact Ext.refl _ | refine Ext.alloc ?_ _ | refine Ext.drew ?_ | refine Ext.setB ?_ (by first | omega | (simp only [size_alloc, size_setB, size_drew]; omega)) _ | refine Ext.trans ?_ (by assumption)))⟩)
                          | (exfalso; omega)
                        · have hb101p := hb101.h; simp only [al_ete, al_dfn, Bool.not_eq_true', Bool.not_eq_false', al_ne, Bool.not_not, al_nn] at hb101p
                          refine W_seq ?_
                          refine W_region rfl ?_
                          refine WO_p (PS_eql rfl rfl) ?_
                          refine WO_p (PS_assign_bool rfl) ?_
                          refine WO_nil ?_
                          refine thn_normal ?_
                          refine W_if rfl (fun hb104 => ?_) (fun hb104 => ?_)
                          · have hb104p := hb104.h; simp only [al_ete, al_dfn, Bool.not_eq_true', Bool.not_eq_false', al_ne, Bool.not_not, al_nn] at hb104p
                            refine W_region rfl ?_
                            refine WO_p (PS_move_ptr rfl) ?_
                            refine WO_p (PS_move_ptr rfl) ?_
                            refine WO_p (PS_nilCheck rfl) ?_
                            refine WO_p (PS_fieldAddr 8 Hvad.runUnderlying173 rfl Hvad.sizeOf4 rfl rfl) ?_
                            refine WO_load (.bool _) Hvad.isAgg4 rfl (Hb.h (by repeat (first | assumption | exact Hb.newY _ _ | refine Hb.alloc ?_ | refine Hb.drew ?_ | refine Hb.ext (by assumption) ?_ | exact Hb.setSameL (by first | omega | (simp only [size_alloc, size_setB, size_drew]; omega)) | exact Hb.setSame (by assumption) | refine Hb.set (by first | omega | (simp only [size_alloc, size_setB, size_drew]; omega)) ?_ ))) (Ce.h (by first | assumption | exact ⟨rfl⟩)) ?_
                            refine WO_p (PS_nilCheck rfl) ?_
                            refine WO_p (PS_fieldAddr 28 Hvad.runUnderlying149 rfl Hvad.sizeOf4 rfl rfl) ?_
                            have hv2 := hv.ext (Ext.drew (Ext.drew (Ext.refl _)))
                            have hr2 := hr.drew.drew
                            refine WO_store1 Hvad.sizeOf4 rfl (v := .bool _) rfl hr2.h rfl (by omega) rfl ?_
                            obtain ⟨hV, hS⟩ := hv2.wA_gone hx hab hcap hr2 hrs hrow e.flag trivial
                            replace hS := VStep.pre (Ext.drew (Ext.drew (Ext.refl _))) hS
                            refine WO_nil ?_
                            refine inBlk_normal ?_
                            refine inBlk_normal ?_
                            refine thn_normal ?_
                            refine W_seq ?_
                            refine W_region rfl ?_
                            refine WO_p (PS_assign_bool rfl) ?_
                            refine WO_nil ?_
                            refine thn_normal ?_
                            refine W_ret ?_
                            refine bodyQ_ret1 Hvad.results268 rfl (.bool _) rfl ?_
                            first
                            | (rw [undo_0 (by omega) h0 hx]; exact ⟨rfl, _, _, hV, hS⟩)
                            | (rw [undo_1 (by omega) h0 hx]; exact ⟨rfl, _, _, hV, hS⟩)
                            | (rw [undo_2 (by omega) h0 hx]; exact ⟨rfl, _, _, hV, hS⟩)
                            | (rw [undo_4 (by omega) h0 hx]; exact ⟨rfl, _, _, hV, hS⟩)
                            | (rw [undo_9 (by omega) h0 hx]; exact ⟨rfl, _, _, hV, hS⟩)
                            | (rw [undo_10 (by omega) h0 hx]; exact ⟨rfl, _, _, hV, hS⟩)
                            | (rw [undo_3 (by omega) h0 hx]; exact ⟨rfl, _, _, hV, hS⟩)
                            | (rw [undo_5 (by omega) h0 hx]; exact ⟨rfl, _, _, hV, hS⟩)
                            | (rw [undo_8 (by omega) h0 hx]; exact ⟨rfl, _, _, hV, hS⟩)
                            | (rw [undo_6 (by omega)]; exact ⟨rfl, _, _, hV, hS⟩)
                            | (rw [undo_7 (by omega) (by omega)]; exact ⟨rfl, _, _, hV, hS⟩)
                            | (rw [undo_7n (by omega) (by omega)]; exact ⟨rfl, VRet.ext hv (by repeat (first | assumption | exact Ext.refl _ | refine Ext.alloc ?_ _ | refine Ext.drew ?_ | refine Ext.setB ?_ (by first | omega | (simp only [size_alloc, size_setB, size_drew]; omega)) _ | refine Ext.trans ?_ (by assumption)))⟩)
                            | (rw [undo_An (by unfold Entry.isA; omega) (by omega)]; exact ⟨rfl, VRet.ext hv (by repeat (first | assumption | exact Ext.refl _ | refine Ext.alloc ?_ _ | refine Ext.drew ?_ | refine Ext.setB ?_ (by first | omega | (simp only [size_alloc, size_setB, size_drew]; omega)) _ | refine Ext.trans ?_ (by assumption)))⟩)
                            | (rw [undo_Sn (by unfold Entry.isS; omega) (by omega)]; exact ⟨rfl, VRet.ext hv (by repeat (first | assumption | exact Ext.refl _ | refine Ext.alloc ?_ _ | refine Ext.drew ?_ | refine Ext.setB ?_ (by first | omega | (simp only [size_alloc, size_setB, size_drew]; omega)) _ | refine Ext.trans ?_ (by assumption)))⟩)
                            | (rw [undo_8n (by omega) (by omega)]; exact ⟨rfl, VRet.ext hv (by repeat (first | assumption | exact Ext.refl _ | refine Ext.alloc ?_ _ | refine Ext.drew ?_ | refine Ext.setB ?_ (by first | omega | (simp only [size_alloc, size_setB, size_drew]; omega)) _ | refine Ext.trans ?_ (by assumption)))⟩)
                            | (rw [undo_n (by unfold Entry.isA; omega) (by unfold Entry.isS; omega) (by omega) (by omega) (by omega)]; exact ⟨rfl, VRet.ext hv (by repeat (first | assumption | exact Ext.refl _ | refine Ext.alloc ?_ _ | refine Ext.drew ?_ | refine Ext.setB ?_ (by first | omega | (simp only [size_alloc, size_setB, size_drew]; omega)) _ | refine Ext.trans ?_ (by assumption)))⟩)
                            | (exfalso; omega)
                          · have hb104p := hb104.h; simp only [al_ete, al_dfn, Bool.not_eq_true', Bool.not_eq_false', al_ne, Bool.not_not, al_nn] at hb104p
                            refine W_skip ?_
                            refine inBlk_normal ?_
                            refine inBlk_normal ?_
                            refine thn_normal ?_
                            refine W_seq ?_
                            refine W_region rfl ?_
                            refine WO_p (PS_assign_bool rfl) ?_
                            refine WO_nil ?_
                            refine thn_normal ?_
                            refine W_ret ?_
                            refine bodyQ_ret1 Hvad.results268 rfl (.bool _) rfl ?_
                            first
                            | (rw [undo_0 (by omega) h0 hx]; exact ⟨rfl, _, _, hV, hS⟩)
                            | (rw [undo_1 (by omega) h0 hx]; exact ⟨rfl, _, _, hV, hS⟩)
                            | (rw [undo_2 (by omega) h0 hx]; exact ⟨rfl, _, _, hV, hS⟩)
                            | (rw [undo_4 (by omega) h0 hx]; exact ⟨rfl, _, _, hV, hS⟩)
                            | (rw [undo_9 (by omega) h0 hx]; exact ⟨rfl, _, _, hV, hS⟩)
                            | (rw [undo_10 (by omega) h0 hx]; exact ⟨rfl, _, _, hV, hS⟩)
                            | (rw [undo_3 (by omega) h0 hx]; exact ⟨rfl, _, _, hV, hS⟩)
                            | (rw [undo_5 (by omega) h0 hx]; exact ⟨rfl, _, _, hV, hS⟩)
                            | (rw [undo_8 (by omega) h0 hx]; exact ⟨rfl, _, _, hV, hS⟩)
                            | (rw [undo_6 (by omega)]; exact ⟨rfl, _, _, hV, hS⟩)
                            | (rw [undo_7 (by omega) (by omega)]; exact ⟨rfl, _, _, hV, hS⟩)
                            | (rw [undo_7n (by omega) (by omega)]; exact ⟨rfl, VRet.ext hv (by repeat (first | assumption | exact Ext.refl _ | refine Ext.alloc ?_ _ | refine Ext.drew ?_ | refine Ext.setB ?_ (by first | omega | (simp only [size_alloc, size_setB, size_drew]; omega)) _ | refine Ext.trans ?_ (by assumption)))⟩)
                            | (rw [undo_An (by unfold Entry.isA; omega) (by omega)]; exact ⟨rfl, VRet.ext hv (by repeat (first | assumption | exact Ext.refl _ | refine Ext.alloc ?_ _ | refine Ext.drew ?_ | refine Ext.setB ?_ (by first | omega | (simp only [size_alloc, size_setB, size_drew]; omega)) _ | refine Ext.trans ?_ (by assumption)))⟩)
                            | (rw [undo_Sn (by unfold Entry.isS; omega) (by omega)]; exact ⟨rfl, VRet.ext hv (by repeat (first | assumption | exact Ext.refl _ | refine Ext.alloc ?_ _ | refine Ext.drew ?_ | refine Ext.setB ?_ (by first | omega | (simp only [size_alloc, size_setB, size_drew]; omega)) _ | refine Ext.trans ?_ (by assumption)))⟩)
                            | (rw [undo_8n (by omega) (by omega)]; exact ⟨rfl, VRet.ext hv (by repeat (first | assumption | exact Ext.refl _ | refine Ext.alloc ?_ _ | refine Ext.drew ?_ | refine Ext.setB ?_ (by first | omega | (simp only [size_alloc, size_setB, size_drew]; omega)) _ | refine Ext.trans ?_ (by assumption)))⟩)
                            | (rw [undo_n (by unfold Entry.isA; omega) (by unfold Entry.isS; omega) (by omega) (by omega) (by omega)]; exact ⟨rfl, VRet.ext hv (by repeat (first | assumption | exact Ext.refl _ | refine Ext.alloc ?_ _ | refine Ext.drew ?_ | refine Ext.setB ?_ (by first | omega | (simp only [size_alloc, size_setB, size_drew]; omega)) _ | refine Ext.trans ?_ (by assumption)))⟩)
                            | (exfalso; omega)
          · have hb86p := hb86.h; simp only [al_ete, al_dfn, Bool.not_eq_true', Bool.not_eq_false', al_ne, Bool.not_not, al_nn] at hb86p
            refine W_region rfl ?_
            refine WO_p (PS_eql rfl rfl) ?_
            refine WO_p (PS_assign_bool rfl) ?_
            refine WO_nil ?_
            refine thn_normal ?_
            refine W_if rfl (fun hb107 => ?_) (fun hb107 => ?_)
            · have hb107p := hb107.h; simp only [al_ete, al_dfn, Bool.not_eq_true', Bool.not_eq_false', al_ne, Bool.not_not, al_nn] at hb107p
              refine W_seq ?_
              refine W_seq ?_
              refine W_drawE [false, false, false, false, false, false, false, false, false, false, false, false, false, false, false, false, false, false] hmix (by kernel_rfl) rfl ?_
              refine WH_p (PS_move_ptr rfl) rfl ?_
              refine WH_p (PS_nilCheck rfl) rfl ?_
              refine WH_p (PS_fieldAddr 1 Hvad.runUnderlying173 rfl Hvad.sizeOf21 rfl rfl) rfl ?_
              refine WH_load (.int _ _) Hvad.isAgg21 rfl (Hb.h (by repeat (first | assumption | exact Hb.newY _ _ | refine Hb.alloc ?_ | refine Hb.drew ?_ | refine Hb.ext (by assumption) ?_ | exact Hb.setSameL (by first | omega | (simp only [size_alloc, size_setB, size_drew]; omega)) | exact Hb.setSame (by assumption) | refine Hb.set (by first | omega | (simp only [size_alloc, size_setB, size_drew]; omega)) ?_ ))) (Ce.h (by first | assumption | exact ⟨rfl⟩)) ?_
              refine WH_p (PS_lss rfl rfl) rfl ?_
              refine WH_p (PS_move_bool rfl) rfl ?_
              refine WH_if (t := 22) rfl (fun hb109 => ?_) (fun hb109 => ?_)
              · have hb109p := hb109.h; simp only [al_ete, al_dfn, Bool.not_eq_true', Bool.not_eq_false', al_ne, Bool.not_not, al_nn] at hb109p
                refine WH_guardF rfl rfl hb109.h ?_
                refine WH_guardF rfl rfl hb109.h ?_
                refine WH_guardF rfl rfl hb109.h ?_
                refine WH_guardF rfl rfl hb109.h ?_
                refine WH_guardF rfl rfl hb109.h ?_
                refine WH_guardF rfl rfl hb109.h ?_
                refine WH_guardF rfl rfl hb109.h ?_
                refine WH_guardF rfl rfl hb109.h ?_
                refine WH_guardF rfl rfl hb109.h ?_
                refine WH_guardF rfl rfl hb109.h ?_
                refine WH_guardF rfl rfl hb109.h ?_
                refine WH_p (PS_pickT rfl hb109.h rfl) rfl ?_
                refine WH_nil ?_
                refine thn_normal ?_
                refine W_condT rfl rfl ?_
                refine W_seq ?_
                refine W_region rfl ?_
                refine WO_p (PS_assign_bool rfl) ?_
                refine WO_nil ?_
                refine thn_normal ?_
                refine W_ret ?_
                refine thn_ret ?_
                refine inBlk_ret ?_
                refine thn_ret ?_
                refine bodyQ_ret1 Hvad.results268 rfl (.bool _) rfl ?_
                first
                | (rw [undo_0 (by omega) h0 hx]; exact ⟨rfl, _, _, hV, hS⟩)
                | (rw [undo_1 (by omega) h0 hx]; exact ⟨rfl, _, _, hV, hS⟩)
                | (rw [undo_2 (by omega) h0 hx]; exact ⟨rfl, _, _, hV, hS⟩)
                | (rw [undo_4 (by omega) h0 hx]; exact ⟨rfl, _, _, hV, hS⟩)
                | (rw [undo_9 (by omega) h0 hx]; exact ⟨rfl, _, _, hV, hS⟩)
                | (rw [undo_10 (by omega) h0 hx]; exact ⟨rfl, _, _, hV, hS⟩)
                | (rw [undo_3 (by omega) h0 hx]; exact ⟨rfl, _, _, hV, hS⟩)
                | (rw [undo_5 (by omega) h0 hx]; exact ⟨rfl, _, _, hV, hS⟩)
                | (rw [undo_8 (by omega) h0 hx]; exact ⟨rfl, _, _, hV, hS⟩)
                | (rw [undo_6 (by omega)]; exact ⟨rfl, _, _, hV, hS⟩)
                | (rw [undo_7 (by omega) (by omega)]; exact ⟨rfl, _, _, hV, hS⟩)
                | (rw [undo_7n (by omega) (by omega)]; exact ⟨rfl, VRet.ext hv (by repeat (first | assumption | exact Ext.refl _ | refine Ext.alloc ?_ _ | refine Ext.drew ?_ | refine Ext.setB ?_ (by first | omega | (simp only [size_alloc, size_setB, size_drew]; omega)) _ | refine Ext.trans ?_ (by assumption)))⟩)
                | (rw [undo_An (by unfold Entry.isA; omega) (by omega)]; exact ⟨rfl, VRet.ext hv (by repeat (first | assumption | exact Ext.refl _ | refine Ext.alloc ?_ _ | refine Ext.drew ?_ | refine Ext.setB ?_ (by first | omega | (simp only [size_alloc, size_setB, size_drew]; omega)) _ | refine Ext.trans ?_ (by assumption)))⟩)
                | (rw [undo_Sn (by unfold Entry.isS; omega) (by omega)]; exact ⟨rfl, VRet.ext hv (by repeat (first | assumption | exact Ext.refl _ | refine Ext.alloc ?_ _ | refine Ext.drew ?_ | refine Ext.setB ?_ (by first | omega | (simp only [size_alloc, size_setB, size_drew]; omega)) _ | refine Ext.trans ?_ (by assumption)))⟩)
                | (rw [undo_8n (by omega) (by omega)]; exact ⟨rfl, VRet.ext hv (by repeat (first | assumption | exact Ext.refl _ | refine Ext.alloc ?_ _ | refine Ext.drew ?_ | refine Ext.setB ?_ (by first | omega | (simp only [size_alloc, size_setB, size_drew]; omega)) _ | refine Ext.trans ?_ (by assumption)))⟩)
                | (rw [undo_n (by unfold Entry.isA; omega) (by unfold Entry.isS; omega) (by omega) (by omega) (by omega)]; exact ⟨rfl, VRet.ext hv (by repeat (first | assumption | exact Ext.refl _ | refine Ext.alloc ?_ _ | refine Ext.drew ?_ | refine Ext.setB ?_ (by first | omega | (simp only [size_alloc, size_setB, size_drew]; omega)) _ | refine Ext.trans ?_ (by assumption)))⟩)
                | (exfalso; omega)
              · have hb109p := hb109.h; simp only [al_ete, al_dfn, Bool.not_eq_true', Bool.not_eq_false', al_ne, Bool.not_not, al_nn] at hb109p
                refine WH_guardT rfl rfl hb109.h ?_
                refine WH_p (PS_move_ptr rfl) rfl ?_
                refine WH_guardT rfl rfl hb109.h ?_
                refine WH_p (PS_nilCheck rfl) rfl ?_
                refine WH_guardT rfl rfl hb109.h ?_
                refine WH_p (PS_fieldAddr 1 Hvad.runUnderlying173 rfl Hvad.sizeOf21 rfl rfl) rfl ?_
                refine WH_guardT rfl rfl hb109.h ?_
                refine WH_load (.int _ _) Hvad.isAgg21 rfl (Hb.h (by repeat (first | assumption | exact Hb.newY _ _ | refine Hb.alloc ?_ | refine Hb.drew ?_ | refine Hb.ext (by assumption) ?_ | exact Hb.setSameL (by first | omega | (simp only [size_alloc, size_setB, size_drew]; omega)) | exact Hb.setSame (by assumption) | refine Hb.set (by first | omega | (simp only [size_alloc, size_setB, size_drew]; omega)) ?_ ))) (Ce.h (by first | assumption | exact ⟨rfl⟩)) ?_
                refine WH_guardT rfl rfl hb109.h ?_
                refine WH_p (PS_conv_i64n Hvad.runUnderlying21 Hvad.runUnderlying3 rfl (by omega) (by omega)) rfl ?_
                refine WH_guardT rfl rfl hb109.h ?_
                refine WH_p (PS_move_ptr rfl) rfl ?_
                refine WH_guardT rfl rfl hb109.h ?_
                refine WH_p (PS_nilCheck rfl) rfl ?_
                refine WH_guardT rfl rfl hb109.h ?_
                refine WH_p (PS_fieldAddr 0 Hvad.runUnderlying79 rfl Hvad.sizeOf70 rfl rfl) rfl ?_
                refine WH_guardT rfl rfl hb109.h ?_
                refine WH_load (.slice _ _ _) Hvad.isAgg70 rfl (Hb.h (by repeat (first | assumption | exact Hb.newY _ _ | refine Hb.alloc ?_ | refine Hb.drew ?_ | refine Hb.ext (by assumption) ?_ | exact Hb.setSameL (by first | omega | (simp only [size_alloc, size_setB, size_drew]; omega)) | exact Hb.setSame (by assumption) | refine Hb.set (by first | omega | (simp only [size_alloc, size_setB, size_drew]; omega)) ?_ ))) (Ce.h (by first | assumption | exact ⟨rfl⟩)) ?_
                refine WH_guardT rfl rfl hb109.h ?_
                refine WH_p (PS_lenS Hvad.runUnderlying70 rfl) rfl ?_
                refine WH_guardT rfl rfl hb109.h ?_
                refine WH_p (PS_geq rfl rfl) rfl ?_
                refine WH_p (PS_pickF rfl hb109.h rfl) rfl ?_
                refine WH_nil ?_
                refine thn_normal ?_
                refine W_if rfl (fun hb111 => ?_) (fun hb111 => ?_)
                · have hb111p := hb111.h; simp only [al_ete, al_dfn, Bool.not_eq_true', Bool.not_eq_false', al_ne, Bool.not_not, al_nn] at hb111p
                  refine W_seq ?_
                  refine W_region rfl ?_
                  refine WO_p (PS_assign_bool rfl) ?_
                  refine WO_nil ?_
                  refine thn_normal ?_
                  refine W_ret ?_
                  refine thn_ret ?_
                  refine inBlk_ret ?_
                  refine thn_ret ?_
                  refine bodyQ_ret1 Hvad.results268 rfl (.bool _) rfl ?_
                  first
                  | (rw [undo_0 (by omega) h0 hx]; exact ⟨rfl, _, _, hV, hS⟩)
                  | (rw [undo_1 (by omega) h0 hx]; exact ⟨rfl, _, _, hV, hS⟩)
                  | (rw [undo_2 (by omega) h0 hx]; exact ⟨rfl, _, _, hV, hS⟩)
                  | (rw [undo_4 (by omega) h0 hx]; exact ⟨rfl, _, _, hV, hS⟩)
                  | (rw [undo_9 (by omega) h0 hx]; exact ⟨rfl, _, _, hV, hS⟩)
                  | (rw [undo_10 (by omega) h0 hx]; exact ⟨rfl, _, _, hV, hS⟩)
                  | (rw [undo_3 (by omega) h0 hx]; exact ⟨rfl, _, _, hV, hS⟩)
                  | (rw [undo_5 (by omega) h0 hx]; exact ⟨rfl, _, _, hV, hS⟩)
                  | (rw [undo_8 (by omega) h0 hx]; exact ⟨rfl, _, _, hV, hS⟩)
                  | (rw [undo_6 (by omega)]; exact ⟨rfl, _, _, hV, hS⟩)
                  | (rw [undo_7 (by omega) (by omega)]; exact ⟨rfl, _, _, hV, hS⟩)
                  | (rw [undo_7n (by omega) (by omega)]; exact ⟨rfl, VRet.ext hv (by repeat (first | assumption | exact Ext.refl _ | refine Ext.alloc ?_ _ | refine Ext.drew ?_ | refine Ext.setB ?_ (by first | omega | (simp only [size_alloc, size_setB, size_drew]; omega)) _ | refine Ext.trans ?_ (by assumption)))⟩)
                  | (rw [undo_An (by unfold Entry.isA; omega) (by omega)]; exact ⟨rfl, VRet.ext hv (by repeat (first | assumption | exact Ext.refl _ | refine Ext.alloc ?_ _ | refine Ext.drew ?_ | refine Ext.setB ?_ (by first | omega | (simp only [size_alloc, size_setB, size_drew]; omega)) _ | refine Ext.trans ?_ (by assumption)))⟩)
                  | (rw [undo_Sn (by unfold Entry.isS; omega) (by omega)]; exact ⟨rfl, VRet.ext hv (by repeat (first | assumption | exact Ext.refl _ | refine Ext.alloc ?_ _ | refine Ext.drew ?_ | refine Ext.setB ?_ (by first | omega | (simp only [size_alloc, size_setB, size_drew]; omega)) _ | refine Ext.trans ?_ (by assumption)))⟩)
                  | (rw [undo_8n (by omega) (by omega)]; exact ⟨rfl, VRet.ext hv (by repeat (first | assumption | exact Ext.refl _ | refine Ext.alloc ?_ _ | refine Ext.drew ?_ | refine Ext.setB ?_ (by first | omega | (simp only [size_alloc, size_setB, size_drew]; omega)) _ | refine Ext.trans ?_ (by assumption)))⟩)
                  | (rw [undo_n (by unfold Entry.isA; omega) (by unfold Entry.isS; omega) (by omega) (by omega) (by omega)]; exact ⟨rfl, VRet.ext hv (by repeat (first | assumption | exact Ext.refl _ | refine Ext.alloc ?_ _ | refine Ext.drew ?_ | refine Ext.setB ?_ (by first | omega | (simp only [size_alloc, size_setB, size_drew]; omega)) _ | refine Ext.trans ?_ (by assumption)))⟩)
                  | (exfalso; omega)
                · have hb111p := hb111.h; simp only [al_ete, al_dfn, Bool.not_eq_true', Bool.not_eq_false', al_ne, Bool.not_not, al_nn] at hb111p
                  have h0 : 0 ≤ e.at_ := by omega
                  obtain ⟨x, hx⟩ : ∃ x, v.accts[e.at_.toNat]? = some x := ⟨_, List.getElem?_eq_getElem (by omega)⟩
                  clear hda
                  obtain ⟨b, cap, r, hab, hcap, hr, hrs, hrow, hda, hbd, hil, hty, f0, f1, f2, f3, f4, f5, f6⟩ := hv.openA hx
                  refine W_skip ?_
                  refine thn_normal ?_
                  refine W_seq ?_
                  refine W_drawE [false, false, false, false, false, false, false, false, false, false] hmix (by kernel_rfl) rfl ?_
                  refine WH_p (PS_move_ptr rfl) rfl ?_
                  refine WH_p (PS_nilCheck rfl) rfl ?_
                  refine WH_p (PS_fieldAddr 0 Hvad.runUnderlying79 rfl Hvad.sizeOf70 rfl rfl) rfl ?_
                  refine WH_load (.slice _ _ _) Hvad.isAgg70 rfl (Hb.h (by repeat (first | assumption | exact Hb.newY _ _ | refine Hb.alloc ?_ | refine Hb.drew ?_ | refine Hb.ext (by assumption) ?_ | exact Hb.setSameL (by first | omega | (simp only [size_alloc, size_setB, size_drew]; omega)) | exact Hb.setSame (by assumption) | refine Hb.set (by first | omega | (simp only [size_alloc, size_setB, size_drew]; omega)) ?_ ))) (Ce.h (by first | assumption | exact ⟨rfl⟩)) ?_
                  refine WH_p (PS_move_ptr rfl) rfl ?_
                  refine WH_p (PS_nilCheck rfl) rfl ?_
                  refine WH_p (PS_fieldAddr 1 Hvad.runUnderlying173 rfl Hvad.sizeOf21 rfl rfl) rfl ?_
                  refine WH_load (.int _ _) Hvad.isAgg21 rfl (Hb.h (by repeat (first | assumption | exact Hb.newY _ _ | refine Hb.alloc ?_ | refine Hb.drew ?_ | refine Hb.ext (by assumption) ?_ | exact Hb.setSameL (by first | omega | (simp only [size_alloc, size_setB, size_drew]; omega)) | exact Hb.setSame (by assumption) | refine Hb.set (by first | omega | (simp only [size_alloc, size_setB, size_drew]; omega)) ?_ ))) (Ce.h (by first | assumption | exact ⟨rfl⟩)) ?_
                  refine WH_p (PS_indexS Hvad.runUnderlying70 Hvad.sizeOf149 rfl rfl (by omega) (by omega)) rfl ?_
                  refine WH_p (PS_assign_ptr rfl) rfl ?_
                  refine WH_nil ?_
                  refine thn_normal ?_
                  refine W_seq ?_
                  refine W_region rfl ?_
                  refine WO_p (PS_move_ptr rfl) ?_
                  refine WO_p (PS_nilCheck rfl) ?_
                  refine WO_p (PS_fieldAddr 0 Hvad.runUnderlying173 rfl Hvad.sizeOf5 rfl rfl) ?_
                  refine WO_load (.int _ _) Hvad.isAgg5 rfl (Hb.h (by repeat (first | assumption | exact Hb.newY _ _ | refine Hb.alloc ?_ | refine Hb.drew ?_ | refine Hb.ext (by assumption) ?_ | exact Hb.setSameL (by first | omega | (simp only [size_alloc, size_setB, size_drew]; omega)) | exact Hb.setSame (by assumption) | refine Hb.set (by first | omega | (simp only [size_alloc, size_setB, size_drew]; omega)) ?_ ))) (Ce.h (by first | assumption | exact ⟨rfl⟩)) ?_
                  refine WO_nil ?_
                  refine thn_normal ?_
                  refine W_block ?_
                  refine W_seq ?_
                  refine W_region rfl ?_
                  refine WO_p (PS_eql rfl rfl) ?_
                  refine WO_p (PS_assign_bool rfl) ?_
                  refine WO_nil ?_
                  refine thn_normal ?_
                  refine W_if rfl (fun hb113 => ?_) (fun hb113 => ?_)
                  · have hb113p := hb113.h; simp only [al_ete, al_dfn, Bool.not_eq_true', Bool.not_eq_false', al_ne, Bool.not_not, al_nn] at hb113p
                    refine W_region rfl ?_
                    refine WO_p (PS_move_ptr rfl) ?_
                    refine WO_p (PS_move_ptr rfl) ?_
                    refine WO_p (PS_nilCheck rfl) ?_
                    refine WO_p (PS_fieldAddr 3 Hvad.runUnderlying173 rfl Hvad.sizeOf59 rfl rfl) ?_
                    refine WO_loadA _ Hvad.isAgg59 Hvad.sizeOf59 rfl (Hb.h (by repeat (first | assumption | exact Hb.newY _ _ | refine Hb.alloc ?_ | refine Hb.drew ?_ | refine Hb.ext (by assumption) ?_ | exact Hb.setSameL (by first | omega | (simp only [size_alloc, size_setB, size_drew]; omega)) | exact Hb.setSame (by assumption) | refine Hb.set (by first | omega | (simp only [size_alloc, size_setB, size_drew]; omega)) ?_ ))) (by first | omega | assumption | rfl | decide | (simp only [size_ic, Value.cells]; omega) | simp) (Xt.h (by first | assumption | exact Xt.whole rfl rfl | exact Xt.whole rfl (by simp only [size_ic, Value.cells]; omega) | exact ⟨rfl⟩)) ?_
                    refine WO_p (PS_nilCheck rfl) ?_
                    refine WO_p (PS_fieldAddr 21 Hvad.runUnderlying149 rfl Hvad.sizeOf59 rfl rfl) ?_
                    have hv2 := hv.ext (Ext.drew (Ext.drew (Ext.refl _)))
                    have hr2 := hr.drew.drew
                    refine WO_store Hvad.sizeOf59 rfl (v := .agg (ic .u64 e.w)) rfl hr2.h (by first | omega | assumption | rfl | decide | (simp only [size_ic, Value.cells]; omega) | simp) (by omega) (by first | exact oneCell_ic | assumption) ?_
                    obtain ⟨hV, hS⟩ := hv2.wA_bal hx hab hcap hr2 hrs hrow e.w htj.2.2.2
                    replace hS := VStep.pre (Ext.drew (Ext.drew (Ext.refl _))) hS
                    refine WO_nil ?_
                    refine inBlk_normal ?_
                    refine inBlk_normal ?_
                    refine thn_normal ?_
                    refine W_seq ?_
                    refine W_region rfl ?_
                    refine WO_p (PS_assign_bool rfl) ?_
                    refine WO_nil ?_
                    refine thn_normal ?_
                    refine W_ret ?_
                    refine bodyQ_ret1 Hvad.results268 rfl (.bool _) rfl ?_
                    first
                    | (rw [undo_0 (by omega) h0 hx]; exact ⟨rfl, _, _, hV, hS⟩)
                    | (rw [undo_1 (by omega) h0 hx]; exact ⟨rfl, _, _, hV, hS⟩)
                    | (rw [undo_2 (by omega) h0 hx]; exact ⟨rfl, _, _, hV, hS⟩)
                    | (rw [undo_4 (by omega) h0 hx]; exact ⟨rfl, _, _, hV, hS⟩)
                    | (rw [undo_9 (by omega) h0 hx]; exact ⟨rfl, _, _, hV, hS⟩)
                    | (rw [undo_10 (by omega) h0 hx]; exact ⟨rfl, _, _, hV, hS⟩)
                    | (rw [undo_3 (by omega) h0 hx]; exact ⟨rfl, _, _, hV, hS⟩)
                    | (rw [undo_5 (by omega) h0 hx]; exact ⟨rfl, _, _, hV, hS⟩)
                    | (rw [undo_8 (by omega) h0 hx]; exact ⟨rfl, _, _, hV, hS⟩)
                    | (rw [undo_6 (by omega)]; exact ⟨rfl, _, _, hV, hS⟩)
                    | (rw [undo_7 (by omega) (by omega)]; exact ⟨rfl, _, _, hV, hS⟩)
                    | (rw [undo_7n (by omega) (by omega)]; exact ⟨rfl, VRet.ext hv (by repeat (first | assumption | exact Ext.refl _ | refine Ext.alloc ?_ _ | refine Ext.drew ?_ | refine Ext.setB ?_ (by first | omega | (simp only [size_alloc, size_setB, size_drew]; omega)) _ | refine Ext.trans ?_ (by assumption)))⟩)
                    | (rw [undo_An (by unfold Entry.isA; omega) (by omega)]; exact ⟨rfl, VRet.ext hv (by repeat (first | assumption | exact Ext.refl _ | refine Ext.alloc ?_ _ | refine Ext.drew ?_ | refine Ext.setB ?_ (by first | omega | (simp only [size_alloc, size_setB, size_drew]; omega)) _ | refine Ext.trans ?_ (by assumption)))⟩)
                    | (rw [undo_Sn (by unfold Entry.isS; omega) (by omega)]; exact ⟨rfl, VRet.ext hv (by repeat (first | assumption | exact Ext.refl _ | refine Ext.alloc ?_ _ | refine Ext.drew ?_ | refine Ext.setB ?_ (by first | omega | (simp only [size_alloc, size_setB, size_drew]; omega)) _ | refine Ext.trans ?_ (by assumption)))⟩)
                    | (rw [undo_8n (by omega) (by omega)]; exact ⟨rfl, VRet.ext hv (by repeat (first | assumption | exact Ext.refl _ | refine Ext.alloc ?_ _ | refine Ext.drew ?_ | refine Ext.setB ?_ (by first | omega | (simp only [size_alloc, size_setB, size_drew]; omega)) _ | refine Ext.trans ?_ (by assumption)))⟩)
                    | (rw [undo_n (by unfold Entry.isA; omega) (by unfold Entry.isS; omega) (by omega) (by omega) (by omega)]; exact ⟨rfl, VRet.ext hv (by repeat (first | assumption | exact Ext.refl _ | refine Ext.alloc ?_ _ | refine Ext.drew ?_ | refine Ext.setB ?_ (by first | omega | (simp only [size_alloc, size_setB, size_drew]; omega)) _ | refine Ext.trans ?_ (by assumption)))⟩)
                    | (exfalso; omega)
                  · have hb113p := hb113.h; simp only [al_ete, al_dfn, Bool.not_eq_true', Bool.not_eq_false', al_ne, Bool.not_not, al_nn] at hb113p
                    refine W_seq ?_
                    refine W_region rfl ?_
                    refine WO_p (PS_eql rfl rfl) ?_
                    refine WO_p (PS_assign_bool rfl) ?_
                    refine WO_nil ?_
                    refine thn_normal ?_
                    refine W_if rfl (fun hb115 => ?_) (fun hb115 => ?_)
                    · have hb115p := hb115.h; simp only [al_ete, al_dfn, Bool.not_eq_true', Bool.not_eq_false', al_ne, Bool.not_not, al_nn] at hb115p
                      refine W_region rfl ?_
                      refine WO_p (PS_move_ptr rfl) ?_
                      refine WO_p (PS_move_ptr rfl) ?_
                      refine WO_p (PS_nilCheck rfl) ?_
                      refine WO_p (PS_fieldAddr 2 Hvad.runUnderlying173 rfl Hvad.sizeOf26 rfl rfl) ?_
                      refine WO_load (.int _ _) Hvad.isAgg26 rfl (Hb.h (by repeat (first | assumption | exact Hb.newY _ _ | refine Hb.alloc ?_ | refine Hb.drew ?_ | refine Hb.ext (by assumption) ?_ | exact Hb.setSameL (by first | omega | (simp only [size_alloc, size_setB, size_drew]; omega)) | exact Hb.setSame (by assumption) | refine Hb.set (by first | omega | (simp only [size_alloc, size_setB, size_drew]; omega)) ?_ ))) (Ce.h (by first | assumption | exact ⟨rfl⟩)) ?_
                      refine WO_p (PS_nilCheck rfl) ?_
                      refine WO_p (PS_fieldAddr 20 Hvad.runUnderlying149 rfl Hvad.sizeOf26 rfl rfl) ?_
                      have hv2 := hv.ext (Ext.drew (Ext.drew (Ext.refl _)))
                      have hr2 := hr.drew.drew
                      refine WO_store1 Hvad.sizeOf26 rfl (v := .int _ _) rfl hr2.h rfl (by omega) rfl ?_
                      obtain ⟨hV, hS⟩ := hv2.wA_nonce hx hab hcap hr2 hrs hrow e.n htj.2.2.1
                      replace hS := VStep.pre (Ext.drew (Ext.drew (Ext.refl _))) hS
                      refine WO_nil ?_
                      refine inBlk_normal ?_
                      refine inBlk_normal ?_
                      refine thn_normal ?_
                      refine W_seq ?_
                      refine W_region rfl ?_
                      refine WO_p (PS_assign_bool rfl) ?_
                      refine WO_nil ?_
                      refine thn_normal ?_
                      refine W_ret ?_
                      refine bodyQ_ret1 Hvad.results268 rfl (.bool _) rfl ?_
                      first
                      | (rw [undo_0 (by omega) h0 hx]; exact ⟨rfl, _, _, hV, hS⟩)
                      | (rw [undo_1 (by omega) h0 hx]; exact ⟨rfl, _, _, hV, hS⟩)
                      | (rw [undo_2 (by omega) h0 hx]; exact ⟨rfl, _, _, hV, hS⟩)
                      | (rw [undo_4 (by omega) h0 hx]; exact ⟨rfl, _, _, hV, hS⟩)
                      | (rw [undo_9 (by omega) h0 hx]; exact ⟨rfl, _, _, hV, hS⟩)
                      | (rw [undo_10 (by omega) h0 hx]; exact ⟨rfl, _, _, hV, hS⟩)
                      | (rw [undo_3 (by omega) h0 hx]; exact ⟨rfl, _, _, hV, hS⟩)
                      | (rw [undo_5 (by omega) h0 hx]; exact ⟨rfl, _, _, hV, hS⟩)
                      | (rw [undo_8 (by omega) h0 hx]; exact ⟨rfl, _, _, hV, hS⟩)
                      | (rw [undo_6 (by omega)]; exact ⟨rfl, _, _, hV, hS⟩)
                      | (rw [undo_7 (by omega) (by omega)]; exact ⟨rfl, _, _, hV, hS⟩)
                      | (rw [undo_7n (by omega) (by omega)]; exact ⟨rfl, VRet.ext hv (by repeat (first | assumption | exact Ext.refl _ | refine Ext.alloc ?_ _ | refine Ext.drew ?_ | refine Ext.setB ?_ (by first | omega | (simp only [size_alloc, size_setB, size_drew]; omega)) _ | refine Ext.trans ?_ (by assumption)))⟩)
                      | (rw [undo_An (by unfold Entry.isA; omega) (by omega)]; exact ⟨rfl, VRet.ext hv (by repeat (first | assumption | exact Ext.refl _ | refine Ext.alloc ?_ _ | refine Ext.drew ?_ | refine Ext.setB ?_ (by first | omega | (simp only [size_alloc, size_setB, size_drew]; omega)) _ | refine Ext.trans ?_ (by assumption)))⟩)
                      | (rw [undo_Sn (by unfold Entry.isS; omega) (by omega)]; exact ⟨rfl, VRet.ext hv (by repeat (first | assumption | exact Ext.refl _ | refine Ext.alloc ?_ _ | refine Ext.drew ?_ | refine Ext.setB ?_ (by first | omega | (simp only [size_alloc, size_setB, size_drew]; omega)) _ | refine Ext.trans ?_ (by assumption)))⟩)
                      | (rw [undo_8n (by omega) (by omega)]; exact ⟨rfl, VRet.ext hv (by repeat (first | assumption | exact Ext.refl _ | refine Ext.alloc ?_ _ | refine Ext.drew ?_ | refine Ext.setB ?_ (by first | omega | (simp only [size_alloc, size_setB, size_drew]; omega)) _ | refine Ext.trans ?_ (by assumption)))⟩)
                      | (rw [undo_n (by unfold Entry.isA; omega) (by unfold Entry.isS; omega) (by omega) (by omega) (by omega)]; exact ⟨rfl, VRet.ext hv (by repeat (first | assumption | exact Ext.refl _ | refine Ext.alloc ?_ _ | refine Ext.drew ?_ | refine Ext.setB ?_ (by first | omega | (simp only [size_alloc, size_setB, size_drew]; omega)) _ | refine Ext.trans ?_ (by assumption)))⟩)
                      | (exfalso; omega)
                    · have hb115p := hb115.h; simp only [al_ete, al_dfn, Bool.not_eq_true', Bool.not_eq_false', al_ne, Bool.not_not, al_nn] at hb115p
                      refine W_seq ?_
                      refine W_region rfl ?_
                      refine WO_p (PS_eql rfl rfl) ?_
                      refine WO_p (PS_assign_bool rfl) ?_
                      refine WO_nil ?_
                      refine thn_normal ?_
                      refine W_if rfl (fun hb117 => ?_) (fun hb117 => ?_)
                      · have hb117p := hb117.h; simp only [al_ete, al_dfn, Bool.not_eq_true', Bool.not_eq_false', al_ne, Bool.not_not, al_nn] at hb117p
                        refine W_region rfl ?_
                        refine WO_p (PS_move_ptr rfl) ?_
                        refine WO_p (PS_move_ptr rfl) ?_
                        refine WO_p (PS_nilCheck rfl) ?_
                        refine WO_p (PS_fieldAddr 7 Hvad.runUnderlying173 rfl Hvad.sizeOf32 rfl rfl) ?_
                        refine WO_load (.slice _ _ _) Hvad.isAgg32 rfl (Hb.h (by repeat (first | assumption | exact Hb.newY _ _ | refine Hb.alloc ?_ | refine Hb.drew ?_ | refine Hb.ext (by assumption) ?_ | exact Hb.setSameL (by first | omega | (simp only [size_alloc, size_setB, size_drew]; omega)) | exact Hb.setSame (by assumption) | refine Hb.set (by first | omega | (simp only [size_alloc, size_setB, size_drew]; omega)) ?_ ))) (Ce.h (by first | assumption | exact ⟨rfl⟩)) ?_
                        refine WO_p (PS_nilCheck rfl) ?_
                        refine WO_p (PS_fieldAddr 25 Hvad.runUnderlying149 rfl Hvad.sizeOf32 rfl rfl) ?_
                        have hv2 := hv.ext (Ext.drew (Ext.drew (Ext.refl _)))
                        have hr2 := hr.drew.drew
                        have hbe := hv2.olds e (List.mem_of_getElem? he)
                        refine WO_store1 Hvad.sizeOf32 rfl (v := .slice _ _ _) rfl hr2.h rfl (by omega) rfl ?_
                        obtain ⟨hV, hS⟩ := hv2.wA_code hx hab hcap hr2 hrs hrow e.b hbe
                        replace hS := VStep.pre (Ext.drew (Ext.drew (Ext.refl _))) hS
                        refine WO_nil ?_
                        refine inBlk_normal ?_
                        refine inBlk_normal ?_
                        refine thn_normal ?_
                        refine W_seq ?_
                        refine W_region rfl ?_
                        refine WO_p (PS_assign_bool rfl) ?_
                        refine WO_nil ?_
                        refine thn_normal ?_
                        refine W_ret ?_
                        refine bodyQ_ret1 Hvad.results268 rfl (.bool _) rfl ?_
                        first
                        | (rw [undo_0 (by omega) h0 hx]; exact ⟨rfl, _, _, hV, hS⟩)
                        | (rw [undo_1 (by omega) h0 hx]; exact ⟨rfl, _, _, hV, hS⟩)
                        | (rw [undo_2 (by omega) h0 hx]; exact ⟨rfl, _, _, hV, hS⟩)
                        | (rw [undo_4 (by omega) h0 hx]; exact ⟨rfl, _, _, hV, hS⟩)
                        | (rw [undo_9 (by omega) h0 hx]; exact ⟨rfl, _, _, hV, hS⟩)
                        | (rw [undo_10 (by omega) h0 hx]; exact ⟨rfl, _, _, hV, hS⟩)
                        | (rw [undo_3 (by omega) h0 hx]; exact ⟨rfl, _, _, hV, hS⟩)
                        | (rw [undo_5 (by omega) h0 hx]; exact ⟨rfl, _, _, hV, hS⟩)
                        | (rw [undo_8 (by omega) h0 hx]; exact ⟨rfl, _, _, hV, hS⟩)
                        | (rw [undo_6 (by omega)]; exact ⟨rfl, _, _, hV, hS⟩)
                        | (rw [undo_7 (by omega) (by omega)]; exact ⟨rfl, _, _, hV, hS⟩)
                        | (rw [undo_7n (by omega) (by omega)]; exact ⟨rfl, VRet.ext hv (by repeat (first | assumption | exact Ext.refl _ | refine Ext.alloc ?_ _ | refine Ext.drew ?_ | refine Ext.setB ?_ (by first | omega | (simp only [size_alloc, size_setB, size_drew]; omega)) _ | refine Ext.trans ?_ (by assumption)))⟩)
                        | (rw [undo_An (by unfold Entry.isA; omega) (by omega)]; exact ⟨rfl, VRet.ext hv (by repeat (first | assumption | exact Ext.refl _ | refine Ext.alloc ?_ _ | refine Ext.drew ?_ | refine Ext.setB ?_ (by first | omega | (simp only [size_alloc, size_setB, size_drew]; omega)) _ | refine Ext.trans ?_ (by assumption)))⟩)
                        | (rw [undo_Sn (by unfold Entry.isS; omega) (by omega)]; exact ⟨rfl, VRet.ext hv (by repeat (first | assumption | exact Ext.refl _ | refine Ext.alloc ?_ _ | refine Ext.drew ?_ | refine Ext.setB ?_ (by first | omega | (simp only [size_alloc, size_setB, size_drew]; omega)) _ | refine Ext.trans ?_ (by assumption)))⟩)
                        | (rw [undo_8n (by omega) (by omega)]; exact ⟨rfl, VRet.ext hv (by repeat (first | assumption | exact Ext.refl _ | refine Ext.alloc ?_ _ | refine Ext.drew ?_ | refine Ext.setB ?_ (by first | omega | (simp only [size_alloc, size_setB, size_drew]; omega)) _ | refine Ext.trans ?_ (by assumption)))⟩)
                        | (rw [undo_n (by unfold Entry.isA; omega) (by unfold Entry.isS; omega) (by omega) (by omega) (by omega)]; exact ⟨rfl, VRet.ext hv (by repeat (first | assumption | exact Ext.refl _ | refine Ext.alloc ?_ _ | refine Ext.drew ?_ | refine Ext.setB ?_ (by first | omega | (simp only [size_alloc, size_setB, size_drew]; omega)) _ | refine Ext.trans ?_ (by assumption)))⟩)
                        | (exfalso; omega)
                      · have hb117p := hb117.h; simp only [al_ete, al_dfn, Bool.not_eq_true', Bool.not_eq_false', al_ne, Bool.not_not, al_nn] at hb117p
                        refine W_seq ?_
                        refine W_region rfl ?_
                        refine WO_p (PS_eql rfl rfl) ?_
                        refine WO_p (PS_assign_bool rfl) ?_
                        refine WO_nil ?_
                        refine thn_normal ?_
                        refine W_if rfl (fun hb119 => ?_) (fun hb119 => ?_)
                        · have hb119p := hb119.h; simp only [al_ete, al_dfn, Bool.not_eq_true', Bool.not_eq_false', al_ne, Bool.not_not, al_nn] at hb119p
                          refine W_region rfl ?_
                          refine WO_p (PS_move_ptr rfl) ?_
                          refine WO_p (PS_move_ptr rfl) ?_
                          refine WO_p (PS_nilCheck rfl) ?_
                          refine WO_p (PS_fieldAddr 8 Hvad.runUnderlying173 rfl Hvad.sizeOf4 rfl rfl) ?_
                          refine WO_load (.bool _) Hvad.isAgg4 rfl (Hb.h (by repeat (first | assumption | exact Hb.newY _ _ | refine Hb.alloc ?_ | refine Hb.drew ?_ | refine Hb.ext (by assumption) ?_ | exact Hb.setSameL (by first | omega | (simp only [size_alloc, size_setB, size_drew]; omega)) | exact Hb.setSame (by assumption) | refine Hb.set (by first | omega | (simp only [size_alloc, size_setB, size_drew]; omega)) ?_ ))) (Ce.h (by first | assumption | exact ⟨rfl⟩)) ?_
                          refine WO_p (PS_nilCheck rfl) ?_
                          refine WO_p (PS_fieldAddr 26 Hvad.runUnderlying149 rfl Hvad.sizeOf4 rfl rfl) ?_
                          have hv2 := hv.ext (Ext.drew (Ext.drew (Ext.refl _)))
                          have hr2 := hr.drew.drew
                          refine WO_store1 Hvad.sizeOf4 rfl (v := .bool _) rfl hr2.h rfl (by omega) rfl ?_
                          obtain ⟨hV, hS⟩ := hv2.wA_warm hx hab hcap hr2 hrs hrow e.flag trivial
                          replace hS := VStep.pre (Ext.drew (Ext.drew (Ext.refl _))) hS
                          refine WO_nil ?_
                          refine inBlk_normal ?_
                          refine inBlk_normal ?_
                          refine thn_normal ?_
                          refine W_seq ?_
                          refine W_region rfl ?_
                          refine WO_p (PS_assign_bool rfl) ?_
                          refine WO_nil ?_
                          refine thn_normal ?_
                          refine W_ret ?_
                          refine bodyQ_ret1 Hvad.results268 rfl (.bool _) rfl ?_
                          first
                          | (rw [undo_0 (by omega) h0 hx]; exact ⟨rfl, _, _, hV, hS⟩)
                          | (rw [undo_1 (by omega) h0 hx]; exact ⟨rfl, _, _, hV, hS⟩)
                          | (rw [undo_2 (by omega) h0 hx]; exact ⟨rfl, _, _, hV, hS⟩)
                          | (rw [undo_4 (by omega) h0 hx]; exact ⟨rfl, _, _, hV, hS⟩)
                          | (rw [undo_9 (by omega) h0 hx]; exact ⟨rfl, _, _, hV, hS⟩)
                          | (rw [undo_10 (by omega) h0 hx]; exact ⟨rfl, _, _, hV, hS⟩)
                          | (rw [undo_3 (by omega) h0 hx]; exact ⟨rfl, _, _, hV, hS⟩)
                          | (rw [undo_5 (by omega) h0 hx]; exact ⟨rfl, _, _, hV, hS⟩)
                          | (rw [undo_8 (by omega) h0 hx]; exact ⟨rfl, _, _, hV, hS⟩)
                          | (rw [undo_6 (by omega)]; exact ⟨rfl, _, _, hV, hS⟩)
                          | (rw [undo_7 (by omega) (by omega)]; exact ⟨rfl, _, _, hV, hS⟩)
                          | (rw [undo_7n (by omega) (by omega)]; exact ⟨rfl, VRet.ext hv (by repeat (first | assumption | exact Ext.refl _ | refine Ext.alloc ?_ _ | refine Ext.drew ?_ | refine Ext.setB ?_ (by first | omega | (simp only [size_alloc, size_setB, size_drew]; omega)) _ | refine Ext.trans ?_ (by assumption)))⟩)
                          | (rw [undo_An (by unfold Entry.isA; omega) (by omega)]; exact ⟨rfl, VRet.ext hv (by repeat (first | assumption | exact Ext.refl _ | refine Ext.alloc ?_ _ | refine Ext.drew ?_ | refine Ext.setB ?_ (by first | omega | (simp only [size_alloc, size_setB, size_drew]; omega)) _ | refine Ext.trans ?_ (by assumption)))⟩)
                          | (rw [undo_Sn (by unfold Entry.isS; omega) (by omega)]; exact ⟨rfl, VRet.ext hv (by repeat (first | assumption | exact Ext.refl _ | refine Ext.alloc ?_ _ | refine Ext.drew ?_ | refine Ext.setB ?_ (by first | omega | (simp only [size_alloc, size_setB, size_drew]; omega)) _ | refine Ext.trans ?_ (by assumption)))⟩)
                          | (rw [undo_8n (by omega) (by omega)]; exact ⟨rfl, VRet.ext hv (by repeat (first | assumption | exact Ext.refl _ | refine Ext.alloc ?_ _ | refine Ext.drew ?_ | refine Ext.setB ?_ (by first | omega | (simp only [size_alloc, size_setB, size_drew]; omega)) _ | refine Ext.trans ?_ (by assumption)))⟩)
                          | (rw [undo_n (by unfold Entry.isA; omega) (by unfold Entry.isS; omega) (by omega) (by omega) (by omega)]; exact ⟨rfl, VRet.ext hv (by repeat (first | assumption | exact Ext.refl _ | refine Ext.alloc ?_ _ | refine Ext.drew ?_ | refine Ext.setB ?_ (by first | omega | (simp only [size_alloc, size_setB, size_drew]; omega)) _ | refine Ext.trans ?_ (by assumption)))⟩)
                          | (exfalso; omega)
                        · have hb119p := hb119.h; simp only [al_ete, al_dfn, Bool.not_eq_true', Bool.not_eq_false', al_ne, Bool.not_not, al_nn] at hb119p
                          refine W_seq ?_
                          refine W_region rfl ?_
                          refine WO_p (PS_eql rfl rfl) ?_
                          refine WO_p (PS_assign_bool rfl) ?_
                          refine WO_nil ?_
                          refine thn_normal ?_
                          refine W_if rfl (fun hb122 => ?_) (fun hb122 => ?_)
                          · have hb122p := hb122.h; simp only [al_ete, al_dfn, Bool.not_eq_true', Bool.not_eq_false', al_ne, Bool.not_not, al_nn] at hb122p
                            refine W_region rfl ?_
                            refine WO_p (PS_move_ptr rfl) ?_
                            refine WO_p (PS_move_ptr rfl) ?_
                            refine WO_p (PS_nilCheck rfl) ?_
                            refine WO_p (PS_fieldAddr 8 Hvad.runUnderlying173 rfl Hvad.sizeOf4 rfl rfl) ?_
                            refine WO_load (.bool _) Hvad.isAgg4 rfl (Hb.h (by repeat (first | assumption | exact Hb.newY _ _ | refine Hb.alloc ?_ | refine Hb.drew ?_ | refine Hb.ext (by assumption) ?_ | exact Hb.setSameL (by first | omega | (simp only [size_alloc, size_setB, size_drew]; omega)) | exact Hb.setSame (by assumption) | refine Hb.set (by first | omega | (simp only [size_alloc, size_setB, size_drew]; omega)) ?_ ))) (Ce.h (by first | assumption | exact ⟨rfl⟩)) ?_
                            refine WO_p (PS_nilCheck rfl) ?_
                            refine WO_p (PS_fieldAddr 27 Hvad.runUnderlying149 rfl Hvad.sizeOf4 rfl rfl) ?_
                            have hv2 := hv.ext (Ext.drew (Ext.drew (Ext.refl _)))
                            have hr2 := hr.drew.drew
                            refine WO_store1 Hvad.sizeOf4 rfl (v := .bool _) rfl hr2.h rfl (by omega) rfl ?_
                            obtain ⟨hV, hS⟩ := hv2.wA_made hx hab hcap hr2 hrs hrow e.flag trivial
                            replace hS := VStep.pre (Ext.drew (Ext.drew (Ext.refl _))) hS
                            refine WO_nil ?_
                            refine inBlk_normal ?_
                            refine inBlk_normal ?_
                            refine thn_normal ?_
                            refine W_seq ?_
                            refine W_region rfl ?_
                            refine WO_p (PS_assign_bool rfl) ?_
                            refine WO_nil ?_
                            refine thn_normal ?_
                            refine W_ret ?_
                            refine bodyQ_ret1 Hvad.results268 rfl (.bool _) rfl ?_
                            first
                            | (rw [undo_0 (by omega) h0 hx]; exact ⟨rfl, _, _, hV, hS⟩)
                            | (rw [undo_1 (by omega) h0 hx]; exact ⟨rfl, _, _, hV, hS⟩)
                            | (rw [undo_2 (by omega) h0 hx]; exact ⟨rfl, _, _, hV, hS⟩)
                            | (rw [undo_4 (by omega) h0 hx]; exact ⟨rfl, _, _, hV, hS⟩)
                            | (rw [undo_9 (by omega) h0 hx]; exact ⟨rfl, _, _, hV, hS⟩)
                            | (rw [undo_10 (by omega) h0 hx]; exact ⟨rfl, _, _, hV, hS⟩)
                            | (rw [undo_3 (by omega) h0 hx]; exact ⟨rfl, _, _, hV, hS⟩)
                            | (rw [undo_5 (by omega) h0 hx]; exact ⟨rfl, _, _, hV, hS⟩)
                            | (rw [undo_8 (by omega) h0 hx]; exact ⟨rfl, _, _, hV, hS⟩)
                            | (rw [undo_6 (by omega)]; exact ⟨rfl, _, _, hV, hS⟩)
                            | (rw [undo_7 (by omega) (by omega)]; exact ⟨rfl, _, _, hV, hS⟩)
                            | (rw [undo_7n (by omega) (by omega)]; exact ⟨rfl, VRet.ext hv (by repeat (first | assumption | exact Ext.refl _ | refine Ext.alloc ?_ _ | refine Ext.drew ?_ | refine Ext.setB ?_ (by first | omega | (simp only [size_alloc, size_setB, size_drew]; omega)) _ | refine Ext.trans ?_ (by assumption)))⟩)
                            | (rw [undo_An (by unfold Entry.isA; omega) (by omega)]; exact ⟨rfl, VRet.ext hv (by repeat (first | assumption | exact Ext.refl _ | refine Ext.alloc ?_ _ | refine Ext.drew ?_ | refine Ext.setB ?_ (by first | omega | (simp only [size_alloc, size_setB, size_drew]; omega)) _ | refine Ext.trans ?_ (by assumption)))⟩)
                            | (rw [undo_Sn (by unfold Entry.isS; omega) (by omega)]; exact ⟨rfl, VRet.ext hv (by repeat (first | assumption | exact Ext.refl _ | refine Ext.alloc ?_ _ | refine Ext.drew ?_ | refine Ext.setB ?_ (by first | omega | (simp only [size_alloc, size_setB, size_drew]; omega)) _ | refine Ext.trans ?_ (by assumption)))⟩)
                            | (rw [undo_8n (by omega) (by omega)]; exact ⟨rfl, VRet.ext hv (by repeat (first | assumption | exact Ext.refl _ | refine Ext.alloc ?_ _ | refine Ext.drew ?_ | refine Ext.setB ?_ (by first | omega | (simp only [size_alloc, size_setB, size_drew]; omega)) _ | refine Ext.trans ?_ (by assumption)))⟩)
                            | (rw [undo_n (by unfold Entry.isA; omega) (by unfold Entry.isS; omega) (by omega) (by omega) (by omega)]; exact ⟨rfl, VRet.ext hv (by repeat (first | assumption | exact Ext.refl _ | refine Ext.alloc ?_ _ | refine Ext.drew ?_ | refine Ext.setB ?_ (by first | omega | (simp only [size_alloc, size_setB, size_drew]; omega)) _ | refine Ext.trans ?_ (by assumption)))⟩)
                            | (exfalso; omega)
                          · have hb122p := hb122.h; simp only [al_ete, al_dfn, Bool.not_eq_true', Bool.not_eq_false', al_ne, Bool.not_not, al_nn] at hb122p
                            refine W_seq ?_
                            refine W_region rfl ?_
                            refine WO_p (PS_eql rfl rfl) ?_
                            refine WO_p (PS_assign_bool rfl) ?_
                            refine WO_nil ?_
                            refine thn_normal ?_
                            refine W_if rfl (fun hb125 => ?_) (fun hb125 => ?_)
                            · have hb125p := hb125.h; simp only [al_ete, al_dfn, Bool.not_eq_true', Bool.not_eq_false', al_ne, Bool.not_not, al_nn] at hb125p
                              refine W_region rfl ?_
                              refine WO_p (PS_move_ptr rfl) ?_
                              refine WO_p (PS_move_ptr rfl) ?_
                              refine WO_p (PS_nilCheck rfl) ?_
                              refine WO_p (PS_fieldAddr 8 Hvad.runUnderlying173 rfl Hvad.sizeOf4 rfl rfl) ?_
                              refine WO_load (.bool _) Hvad.isAgg4 rfl (Hb.h (by repeat (first | assumption | exact Hb.newY _ _ | refine Hb.alloc ?_ | refine Hb.drew ?_ | refine Hb.ext (by assumption) ?_ | exact Hb.setSameL (by first | omega | (simp only [size_alloc, size_setB, size_drew]; omega)) | exact Hb.setSame (by assumption) | refine Hb.set (by first | omega | (simp only [size_alloc, size_setB, size_drew]; omega)) ?_ ))) (Ce.h (by first | assumption | exact ⟨rfl⟩)) ?_
                              refine WO_p (PS_nilCheck rfl) ?_
                              refine WO_p (PS_fieldAddr 28 Hvad.runUnderlying149 rfl Hvad.sizeOf4 rfl rfl) ?_
                              have hv2 := hv.ext (Ext.drew (Ext.drew (Ext.refl _)))
                              have hr2 := hr.drew.drew
                              refine WO_store1 Hvad.sizeOf4 rfl (v := .bool _) rfl hr2.h rfl (by omega) rfl ?_
                              obtain ⟨hV, hS⟩ := hv2.wA_gone hx hab hcap hr2 hrs hrow e.flag trivial
                              replace hS := VStep.pre (Ext.drew (Ext.drew (Ext.refl _))) hS
                              refine WO_nil ?_
                              refine inBlk_normal ?_
                              refine inBlk_normal ?_
                              refine thn_normal ?_
                              refine W_seq ?_
                              refine W_region rfl ?_
                              refine WO_p (PS_assign_bool rfl) ?_
                              refine WO_nil ?_
                              refine thn_normal ?_
                              refine W_ret ?_
                              refine bodyQ_ret1 Hvad.results268 rfl (.bool _) rfl ?_
                              first
                              | (rw [undo_0 (by omega) h0 hx]; exact ⟨rfl, _, _, hV, hS⟩)
                              | (rw [undo_1 (by omega) h0 hx]; exact ⟨rfl, _, _, hV, hS⟩)
                              | (rw [undo_2 (by omega) h0 hx]; exact ⟨rfl, _, _, hV, hS⟩)
                              | (rw [undo_4 (by omega) h0 hx]; exact ⟨rfl, _, _, hV, hS⟩)
                              | (rw [undo_9 (by omega) h0 hx]; exact ⟨rfl, _, _, hV, hS⟩)
                              | (rw [undo_10 (by omega) h0 hx]; exact ⟨rfl, _, _, hV, hS⟩)
                              | (rw [undo_3 (by omega) h0 hx]; exact ⟨rfl, _, _, hV, hS⟩)
                              | (rw [undo_5 (by omega) h0 hx]; exact ⟨rfl, _, _, hV, hS⟩)
                              | (rw [undo_8 (by omega) h0 hx]; exact ⟨rfl, _, _, hV, hS⟩)
                              | (rw [undo_6 (by omega)]; exact ⟨rfl, _, _, hV, hS⟩)
                              | (rw [undo_7 (by omega) (by omega)]; exact ⟨rfl, _, _, hV, hS⟩)
                              | (rw [undo_7n (by omega) (by omega)]; exact ⟨rfl, VRet.ext hv (by repeat (first | assumption | exact Ext.refl _ | refine Ext.alloc ?_ _ | refine Ext.drew ?_ | refine Ext.setB ?_ (by first | omega | (simp only [size_alloc, size_setB, size_drew]; omega)) _ | refine Ext.trans ?_ (by assumption)))⟩)
                              | (rw [undo_An (by unfold Entry.isA; omega) (by omega)]; exact ⟨rfl, VRet.ext hv (by repeat (first | assumption | exact Ext.refl _ | refine Ext.alloc ?_ _ | refine Ext.drew ?_ | refine Ext.setB ?_ (by first | omega | (simp only [size_alloc, size_setB, size_drew]; omega)) _ | refine Ext.trans ?_ (by assumption)))⟩)
                              | (rw [undo_Sn (by unfold Entry.isS; omega) (by omega)]; exact ⟨rfl, VRet.ext hv (by repeat (first | assumption | exact Ext.refl _ | refine Ext.alloc ?_ _ | refine Ext.drew ?_ | refine Ext.setB ?_ (by first | omega | (simp only [size_alloc, size_setB, size_drew]; omega)) _ | refine Ext.trans ?_ (by assumption)))⟩)
                              | (rw [undo_8n (by omega) (by omega)]; exact ⟨rfl, VRet.ext hv (by repeat (first | assumption | exact Ext.refl _ | refine Ext.alloc ?_ _ | refine Ext.drew ?_ | refine Ext.setB ?_ (by first | omega | (simp only [size_alloc, size_setB, size_drew]; omega)) _ | refine Ext.trans ?_ (by assumption)))⟩)
                              | (rw [undo_n (by unfold Entry.isA; omega) (by unfold Entry.isS; omega) (by omega) (by omega) (by omega)]; exact ⟨rfl, VRet.ext hv (by repeat (first | assumption | exact Ext.refl _ | refine Ext.alloc ?_ _ | refine Ext.drew ?_ | refine Ext.setB ?_ (by first | omega | (simp only [size_alloc, size_setB, size_drew]; omega)) _ | refine Ext.trans ?_ (by assumption)))⟩)
                              | (exfalso; omega)
                            · have hb125p := hb125.h; simp only [al_ete, al_dfn, Bool.not_eq_true', Bool.not_eq_false', al_ne, Bool.not_not, al_nn] at hb125p
                              refine W_skip ?_
                              refine inBlk_normal ?_
                              refine inBlk_normal ?_
                              refine thn_normal ?_
                              refine W_seq ?_
                              refine W_region rfl ?_
                              refine WO_p (PS_assign_bool rfl) ?_
                              refine WO_nil ?_
                              refine thn_normal ?_
                              refine W_ret ?_
                              refine bodyQ_ret1 Hvad.results268 rfl (.bool _) rfl ?_
                              first
                              | (rw [undo_0 (by omega) h0 hx]; exact ⟨rfl, _, _, hV, hS⟩)
                              | (rw [undo_1 (by omega) h0 hx]; exact ⟨rfl, _, _, hV, hS⟩)
                              | (rw [undo_2 (by omega) h0 hx]; exact ⟨rfl, _, _, hV, hS⟩)
                              | (rw [undo_4 (by omega) h0 hx]; exact ⟨rfl, _, _, hV, hS⟩)
                              | (rw [undo_9 (by omega) h0 hx]; exact ⟨rfl, _, _, hV, hS⟩)
                              | (rw [undo_10 (by omega) h0 hx]; exact ⟨rfl, _, _, hV, hS⟩)
                              | (rw [undo_3 (by omega) h0 hx]; exact ⟨rfl, _, _, hV, hS⟩)
                              | (rw [undo_5 (by omega) h0 hx]; exact ⟨rfl, _, _, hV, hS⟩)
                              | (rw [undo_8 (by omega) h0 hx]; exact ⟨rfl, _, _, hV, hS⟩)
                              | (rw [undo_6 (by omega)]; exact ⟨rfl, _, _, hV, hS⟩)
                              | (rw [undo_7 (by omega) (by omega)]; exact ⟨rfl, _, _, hV, hS⟩)
                              | (rw [undo_7n (by omega) (by omega)]; exact ⟨rfl, VRet.ext hv (by repeat (first | assumption | exact Ext.refl _ | refine Ext.alloc ?_ _ | refine Ext.drew ?_ | refine Ext.setB ?_ (by first | omega | (simp only [size_alloc, size_setB, size_drew]; omega)) _ | refine Ext.trans ?_ (by assumption)))⟩)
                              | (rw [undo_An (by unfold Entry.isA; omega) (by omega)]; exact ⟨rfl, VRet.ext hv (by repeat (first | assumption | exact Ext.refl _ | refine Ext.alloc ?_ _ | refine Ext.drew ?_ | refine Ext.setB ?_ (by first | omega | (simp only [size_alloc, size_setB, size_drew]; omega)) _ | refine Ext.trans ?_ (by assumption)))⟩)
                              | (rw [undo_Sn (by unfold Entry.isS; omega) (by omega)]; exact ⟨rfl, VRet.ext hv (by repeat (first | assumption | exact Ext.refl _ | refine Ext.alloc ?_ _ | refine Ext.drew ?_ | refine Ext.setB ?_ (by first | omega | (simp only [size_alloc, size_setB, size_drew]; omega)) _ | refine Ext.trans ?_ (by assumption)))⟩)
                              | (rw [undo_8n (by omega) (by omega)]; exact ⟨rfl, VRet.ext hv (by repeat (first | assumption | exact Ext.refl _ | refine Ext.alloc ?_ _ | refine Ext.drew ?_ | refine Ext.setB ?_ (by first | omega | (simp only [size_alloc, size_setB, size_drew]; omega)) _ | refine Ext.trans ?_ (by assumption)))⟩)
                              | (rw [undo_n (by unfold Entry.isA; omega) (by unfold Entry.isS; omega) (by omega) (by omega) (by omega)]; exact ⟨rfl, VRet.ext hv (by repeat (first | assumption | exact Ext.refl _ | refine Ext.alloc ?_ _ | refine Ext.drew ?_ | refine Ext.setB ?_ (by first | omega | (simp only [size_alloc, size_setB, size_drew]; omega)) _ | refine Ext.trans ?_ (by assumption)))⟩)
                              | (exfalso; omega)
            · have hb107p := hb107.h; simp only [al_ete, al_dfn, Bool.not_eq_true', Bool.not_eq_false', al_ne, Bool.not_not, al_nn] at hb107p
              refine W_seq ?_
              refine W_seq ?_
              refine W_region rfl ?_
              refine WO_p (PS_eql rfl rfl) ?_
              refine WO_p (PS_assign_bool rfl) ?_
              refine WO_nil ?_
              refine thn_normal ?_
              refine W_if rfl (fun hb128 => ?_) (fun hb128 => ?_)
              · have hb128p := hb128.h; simp only [al_ete, al_dfn, Bool.not_eq_true', Bool.not_eq_false', al_ne, Bool.not_not, al_nn] at hb128p
                refine W_skip ?_
                refine thn_normal ?_
                refine W_condT rfl hb128.h ?_
                refine W_seq ?_
                refine W_seq ?_
                refine W_drawE [false, false, false, false, false, false, false, false, false, false, false, false, false, false, false, false, false, false] hmix (by kernel_rfl) rfl ?_
                refine WH_p (PS_move_ptr rfl) rfl ?_
                refine WH_p (PS_nilCheck rfl) rfl ?_
                refine WH_p (PS_fieldAddr 1 Hvad.runUnderlying173 rfl Hvad.sizeOf21 rfl rfl) rfl ?_
                refine WH_load (.int _ _) Hvad.isAgg21 rfl (Hb.h (by repeat (first | assumption | exact Hb.newY _ _ | refine Hb.alloc ?_ | refine Hb.drew ?_ | refine Hb.ext (by assumption) ?_ | exact Hb.setSameL (by first | omega | (simp only [size_alloc, size_setB, size_drew]; omega)) | exact Hb.setSame (by assumption) | refine Hb.set (by first | omega | (simp only [size_alloc, size_setB, size_drew]; omega)) ?_ ))) (Ce.h (by first | assumption | exact ⟨rfl⟩)) ?_
                refine WH_p (PS_lss rfl rfl) rfl ?_
                refine WH_p (PS_move_bool rfl) rfl ?_
                refine WH_if (t := 110) rfl (fun hb130 => ?_) (fun hb130 => ?_)
                · have hb130p := hb130.h; simp only [al_ete, al_dfn, Bool.not_eq_true', Bool.not_eq_false', al_ne, Bool.not_not, al_nn] at hb130p
                  refine WH_guardF rfl rfl hb130.h ?_
                  refine WH_guardF rfl rfl hb130.h ?_
                  refine WH_guardF rfl rfl hb130.h ?_
                  refine WH_guardF rfl rfl hb130.h ?_
                  refine WH_guardF rfl rfl hb130.h ?_
                  refine WH_guardF rfl rfl hb130.h ?_
                  refine WH_guardF rfl rfl hb130.h ?_
                  refine WH_guardF rfl rfl hb130.h ?_
                  refine WH_guardF rfl rfl hb130.h ?_
                  refine WH_guardF rfl rfl hb130.h ?_
                  refine WH_guardF rfl rfl hb130.h ?_
                  refine WH_p (PS_pickT rfl hb130.h rfl) rfl ?_
                  refine WH_nil ?_
                  refine thn_normal ?_
                  refine W_condT rfl rfl ?_
                  refine W_seq ?_
                  refine W_region rfl ?_
                  refine WO_p (PS_assign_bool rfl) ?_
                  refine WO_nil ?_
                  refine thn_normal ?_
                  refine W_ret ?_
                  refine thn_ret ?_
                  refine inBlk_ret ?_
                  refine thn_ret ?_
                  refine bodyQ_ret1 Hvad.results268 rfl (.bool _) rfl ?_
                  first
                  | (rw [undo_0 (by omega) h0 hx]; exact ⟨rfl, _, _, hV, hS⟩)
                  | (rw [undo_1 (by omega) h0 hx]; exact ⟨rfl, _, _, hV, hS⟩)
                  | (rw [undo_2 (by omega) h0 hx]; exact ⟨rfl, _, _, hV, hS⟩)
                  | (rw [undo_4 (by omega) h0 hx]; exact ⟨rfl, _, _, hV, hS⟩)
                  | (rw [undo_9 (by omega) h0 hx]; exact ⟨rfl, _, _, hV, hS⟩)
                  | (rw [undo_10 (by omega) h0 hx]; exact ⟨rfl, _, _, hV, hS⟩)
                  | (rw [undo_3 (by omega) h0 hx]; exact ⟨rfl, _, _, hV, hS⟩)
                  | (rw [undo_5 (by omega) h0 hx]; exact ⟨rfl, _, _, hV, hS⟩)
                  | (rw [undo_8 (by omega) h0 hx]; exact ⟨rfl, _, _, hV, hS⟩)
                  | (rw [undo_6 (by omega)]; exact ⟨rfl, _, _, hV, hS⟩)
                  | (rw [undo_7 (by omega) (by omega)]; exact ⟨rfl, _, _, hV, hS⟩)
                  | (rw [undo_7n (by omega) (by omega)]; exact ⟨rfl, VRet.ext hv (by repeat (first | assumption | exact Ext.refl _ | refine Ext.alloc ?_ _ | refine Ext.drew ?_ | refine Ext.setB ?_ (by first | omega | (simp only [size_alloc, size_setB, size_drew]; omega)) _ | refine Ext.trans ?_ (by assumption)))⟩)
                  | (rw [undo_An (by unfold Entry.isA; omega) (by omega)]; exact ⟨rfl, VRet.ext hv (by repeat (first | assumption | exact Ext.refl _ | refine Ext.alloc ?_ _ | refine Ext.drew ?_ | refine Ext.setB ?_ (by first | omega | (simp only [size_alloc, size_setB, size_drew]; omega)) _ | refine Ext.trans ?_ (by assumption)))⟩)
                  | (rw [undo_Sn (by unfold Entry.isS; omega) (by omega)]; exact ⟨rfl, VRet.ext hv (by repeat (first | assumption | exact Ext.refl _ | refine Ext.alloc ?_ _ | refine Ext.drew ?_ | refine Ext.setB ?_ (by first | omega | (simp only [size_alloc, size_setB, size_drew]; omega)) _ | refine Ext.trans ?_ (by assumption)))⟩)
                  | (rw [undo_8n (by omega) (by omega)]; exact ⟨rfl, VRet.ext hv (by repeat (first | assumption | exact Ext.refl _ | refine Ext.alloc ?_ _ | refine Ext.drew ?_ | refine Ext.setB ?_ (by first | omega | (simp only [size_alloc, size_setB, size_drew]; omega)) _ | refine Ext.trans ?_ (by assumption)))⟩)
                  | (rw [undo_n (by unfold Entry.isA; omega) (by unfold Entry.isS; omega) (by omega) (by omega) (by omega)]; exact ⟨rfl, VRet.ext hv (by repeat (first | assumption | exact Ext.refl _ | refine Ext.alloc ?_ _ | refine Ext.drew ?_ | refine Ext.setB ?_ (by first | omega | (simp only [size_alloc, size_setB, size_drew]; omega)) _ | refine Ext.trans ?_ (by assumption)))⟩)
                  | (exfalso; omega)
                · have hb130p := hb130.h; simp only [al_ete, al_dfn, Bool.not_eq_true', Bool.not_eq_false', al_ne, Bool.not_not, al_nn] at hb130p
                  refine WH_guardT rfl rfl hb130.h ?_
                  refine WH_p (PS_move_ptr rfl) rfl ?_
                  refine WH_guardT rfl rfl hb130.h ?_
                  refine WH_p (PS_nilCheck rfl) rfl ?_
                  refine WH_guardT rfl rfl hb130.h ?_
                  refine WH_p (PS_fieldAddr 1 Hvad.runUnderlying173 rfl Hvad.sizeOf21 rfl rfl) rfl ?_
                  refine WH_guardT rfl rfl hb130.h ?_
                  refine WH_load (.int _ _) Hvad.isAgg21 rfl (Hb.h (by repeat (first | assumption | exact Hb.newY _ _ | refine Hb.alloc ?_ | refine Hb.drew ?_ | refine Hb.ext (by assumption) ?_ | exact Hb.setSameL (by first | omega | (simp only [size_alloc, size_setB, size_drew]; omega)) | exact Hb.setSame (by assumption) | refine Hb.set (by first | omega | (simp only [size_alloc, size_setB, size_drew]; omega)) ?_ ))) (Ce.h (by first | assumption | exact ⟨rfl⟩)) ?_
                  refine WH_guardT rfl rfl hb130.h ?_
                  refine WH_p (PS_conv_i64n Hvad.runUnderlying21 Hvad.runUnderlying3 rfl (by omega) (by omega)) rfl ?_
                  refine WH_guardT rfl rfl hb130.h ?_
                  refine WH_p (PS_move_ptr rfl) rfl ?_
                  refine WH_guardT rfl rfl hb130.h ?_
                  refine WH_p (PS_nilCheck rfl) rfl ?_
                  refine WH_guardT rfl rfl hb130.h ?_
                  refine WH_p (PS_fieldAddr 1 Hvad.runUnderlying79 rfl Hvad.sizeOf71 rfl rfl) rfl ?_
                  refine WH_guardT rfl rfl hb130.h ?_
                  refine WH_load (.slice _ _ _) Hvad.isAgg71 rfl (Hb.h (by repeat (first | assumption | exact Hb.newY _ _ | refine Hb.alloc ?_ | refine Hb.drew ?_ | refine Hb.ext (by assumption) ?_ | exact Hb.setSameL (by first | omega | (simp only [size_alloc, size_setB, size_drew]; omega)) | exact Hb.setSame (by assumption) | refine Hb.set (by first | omega | (simp only [size_alloc, size_setB, size_drew]; omega)) ?_ ))) (Ce.h (by first | assumption | exact ⟨rfl⟩)) ?_
                  refine WH_guardT rfl rfl hb130.h ?_
                  refine WH_p (PS_lenS Hvad.runUnderlying71 rfl) rfl ?_
                  refine WH_guardT rfl rfl hb130.h ?_
                  refine WH_p (PS_geq rfl rfl) rfl ?_
                  refine WH_p (PS_pickF rfl hb130.h rfl) rfl ?_
                  refine WH_nil ?_
                  refine thn_normal ?_
                  refine W_if rfl (fun hb132 => ?_) (fun hb132 => ?_)
                  · have hb132p := hb132.h; simp only [al_ete, al_dfn, Bool.not_eq_true', Bool.not_eq_false', al_ne, Bool.not_not, al_nn] at hb132p
                    refine W_seq ?_
                    refine W_region rfl ?_
                    refine WO_p (PS_assign_bool rfl) ?_
                    refine WO_nil ?_
                    refine thn_normal ?_
                    refine W_ret ?_
                    refine thn_ret ?_
                    refine inBlk_ret ?_
                    refine thn_ret ?_
                    refine bodyQ_ret1 Hvad.results268 rfl (.bool _) rfl ?_
                    first
                    | (rw [undo_0 (by omega) h0 hx]; exact ⟨rfl, _, _, hV, hS⟩)
                    | (rw [undo_1 (by omega) h0 hx]; exact ⟨rfl, _, _, hV, hS⟩)
                    | (rw [undo_2 (by omega) h0 hx]; exact ⟨rfl, _, _, hV, hS⟩)
                    | (rw [undo_4 (by omega) h0 hx]; exact ⟨rfl, _, _, hV, hS⟩)
                    | (rw [undo_9 (by omega) h0 hx]; exact ⟨rfl, _, _, hV, hS⟩)
                    | (rw [undo_10 (by omega) h0 hx]; exact ⟨rfl, _, _, hV, hS⟩)
                    | (rw [undo_3 (by omega) h0 hx]; exact ⟨rfl, _, _, hV, hS⟩)
                    | (rw [undo_5 (by omega) h0 hx]; exact ⟨rfl, _, _, hV, hS⟩)
                    | (rw [undo_8 (by omega) h0 hx]; exact ⟨rfl, _, _, hV, hS⟩)
                    | (rw [undo_6 (by omega)]; exact ⟨rfl, _, _, hV, hS⟩)
                    | (rw [undo_7 (by omega) (by omega)]; exact ⟨rfl, _, _, hV, hS⟩)
                    | (rw [undo_7n (by omega) (by omega)]; exact ⟨rfl, VRet.ext hv (by repeat (first | assumption | exact Ext.refl _ | refine Ext.alloc ?_ _ | refine Ext.drew ?_ | refine Ext.setB ?_ (by first | omega | (simp only [size_alloc, size_setB, size_drew]; omega)) _ | refine Ext.trans ?_ (by assumption)))⟩)
                    | (rw [undo_An (by unfold Entry.isA; omega) (by omega)]; exact ⟨rfl, VRet.ext hv (by repeat (first | assumption | exact Ext.refl _ | refine Ext.alloc ?_ _ | refine Ext.drew ?_ | refine Ext.setB ?_ (by first | omega | (simp only [size_alloc, size_setB, size_drew]; omega)) _ | refine Ext.trans ?_ (by assumption)))⟩)
                    | (rw [undo_Sn (by unfold Entry.isS; omega) (by omega)]; exact ⟨rfl, VRet.ext hv (by repeat (first | assumption | exact Ext.refl _ | refine Ext.alloc ?_ _ | refine Ext.drew ?_ | refine Ext.setB ?_ (by first | omega | (simp only [size_alloc, size_setB, size_drew]; omega)) _ | refine Ext.trans ?_ (by assumption)))⟩)
                    | (rw [undo_8n (by omega) (by omega)]; exact ⟨rfl, VRet.ext hv (by repeat (first | assumption | exact Ext.refl _ | refine Ext.alloc ?_ _ | refine Ext.drew ?_ | refine Ext.setB ?_ (by first | omega | (simp only [size_alloc, size_setB, size_drew]; omega)) _ | refine Ext.trans ?_ (by assumption)))⟩)
                    | (rw [undo_n (by unfold Entry.isA; omega) (by unfold Entry.isS; omega) (by omega) (by omega) (by omega)]; exact ⟨rfl, VRet.ext hv (by repeat (first | assumption | exact Ext.refl _ | refine Ext.alloc ?_ _ | refine Ext.drew ?_ | refine Ext.setB ?_ (by first | omega | (simp only [size_alloc, size_setB, size_drew]; omega)) _ | refine Ext.trans ?_ (by assumption)))⟩)
                    | (exfalso; omega)
                  · have hb132p := hb132.h; simp only [al_ete, al_dfn, Bool.not_eq_true', Bool.not_eq_false', al_ne, Bool.not_not, al_nn] at hb132p
                    have h0 : 0 ≤ e.at_ := by omega
                    obtain ⟨x, hx⟩ : ∃ x, v.slots[e.at_.toNat]? = some x := ⟨_, List.getElem?_eq_getElem (by omega)⟩
                    clear hds
                    obtain ⟨b, cap, r, hab, hcap, hr, hrs, hrow, hds, hbd, hil, hty, f0, f1, f2, f3, f4⟩ := hv.openS hx
                    refine W_skip ?_
                    refine thn_normal ?_
                    refine W_seq ?_
                    refine W_region rfl ?_
                    refine WO_p (PS_move_ptr rfl) ?_
                    refine WO_p (PS_nilCheck rfl) ?_
                    refine WO_p (PS_fieldAddr 0 Hvad.runUnderlying173 rfl Hvad.sizeOf5 rfl rfl) ?_
                    refine WO_load (.int _ _) Hvad.isAgg5 rfl (Hb.h (by repeat (first | assumption | exact Hb.newY _ _ | refine Hb.alloc ?_ | refine Hb.drew ?_ | refine Hb.ext (by assumption) ?_ | exact Hb.setSameL (by first | omega | (simp only [size_alloc, size_setB, size_drew]; omega)) | exact Hb.setSame (by assumption) | refine Hb.set (by first | omega | (simp only [size_alloc, size_setB, size_drew]; omega)) ?_ ))) (Ce.h (by first | assumption | exact ⟨rfl⟩)) ?_
                    refine WO_p (PS_eql rfl rfl) ?_
                    refine WO_nil ?_
                    refine thn_normal ?_
                    refine W_if rfl (fun hb134 => ?_) (fun hb134 => ?_)
                    · have hb134p := hb134.h; simp only [al_ete, al_dfn, Bool.not_eq_true', Bool.not_eq_false', al_ne, Bool.not_not, al_nn] at hb134p
                      refine W_drawE [false, false, false, false, false, false, false, false, false, false, false, false, false, false, false] hmix (by kernel_rfl) rfl ?_
                      refine WH_p (PS_move_ptr rfl) rfl ?_
                      refine WH_p (PS_nilCheck rfl) rfl ?_
                      refine WH_p (PS_fieldAddr 1 Hvad.runUnderlying79 rfl Hvad.sizeOf71 rfl rfl) rfl ?_
                      refine WH_load (.slice _ _ _) Hvad.isAgg71 rfl (Hb.h (by repeat (first | assumption | exact Hb.newY _ _ | refine Hb.alloc ?_ | refine Hb.drew ?_ | refine Hb.ext (by assumption) ?_ | exact Hb.setSameL (by first | omega | (simp only [size_alloc, size_setB, size_drew]; omega)) | exact Hb.setSame (by assumption) | refine Hb.set (by first | omega | (simp only [size_alloc, size_setB, size_drew]; omega)) ?_ ))) (Ce.h (by first | assumption | exact ⟨rfl⟩)) ?_
                      refine WH_p (PS_move_ptr rfl) rfl ?_
                      refine WH_p (PS_nilCheck rfl) rfl ?_
                      refine WH_p (PS_fieldAddr 1 Hvad.runUnderlying173 rfl Hvad.sizeOf21 rfl rfl) rfl ?_
                      refine WH_load (.int _ _) Hvad.isAgg21 rfl (Hb.h (by repeat (first | assumption | exact Hb.newY _ _ | refine Hb.alloc ?_ | refine Hb.drew ?_ | refine Hb.ext (by assumption) ?_ | exact Hb.setSameL (by first | omega | (simp only [size_alloc, size_setB, size_drew]; omega)) | exact Hb.setSame (by assumption) | refine Hb.set (by first | omega | (simp only [size_alloc, size_setB, size_drew]; omega)) ?_ ))) (Ce.h (by first | assumption | exact ⟨rfl⟩)) ?_
                      refine WH_p (PS_move_ptr rfl) rfl ?_
                      refine WH_p (PS_nilCheck rfl) rfl ?_
                      refine WH_p (PS_fieldAddr 3 Hvad.runUnderlying173 rfl Hvad.sizeOf59 rfl rfl) rfl ?_
                      refine WH_loadA _ Hvad.isAgg59 Hvad.sizeOf59 rfl (Hb.h (by repeat (first | assumption | exact Hb.newY _ _ | refine Hb.alloc ?_ | refine Hb.drew ?_ | refine Hb.ext (by assumption) ?_ | exact Hb.setSameL (by first | omega | (simp only [size_alloc, size_setB, size_drew]; omega)) | exact Hb.setSame (by assumption) | refine Hb.set (by first | omega | (simp only [size_alloc, size_setB, size_drew]; omega)) ?_ ))) (by first | omega | assumption | rfl | decide | (simp only [size_ic, Value.cells]; omega) | simp) (Xt.h (by first | assumption | exact Xt.whole rfl rfl | exact Xt.whole rfl (by simp only [size_ic, Value.cells]; omega) | exact ⟨rfl⟩)) ?_
                      refine WH_p (PS_indexS Hvad.runUnderlying71 Hvad.sizeOf152 rfl rfl (by omega) (by omega)) rfl ?_
                      refine WH_p (PS_fieldAddr 5 Hvad.runUnderlying152 rfl Hvad.sizeOf59 rfl rfl) rfl ?_
                      have hv2 := hv.ext (Ext.drew (Ext.drew (Ext.refl _)))
                      have hr2 := hr.drew.drew
                      refine WH_store Hvad.sizeOf59 rfl (v := .agg (ic .u64 e.w)) rfl hr2.h (by first | omega | assumption | rfl | decide | (simp only [size_ic, Value.cells]; omega) | simp) (by omega) (by first | exact oneCell_ic | assumption) (fun h => by cases h) ?_
                      obtain ⟨hV, hS⟩ := hv2.wS_val hx hab hcap hr2 hrs hrow e.w htj.2.2.2
                      replace hS := VStep.pre (Ext.drew (Ext.drew (Ext.refl _))) hS
                      refine WH_nil ?_
                      refine inBlk_normal ?_
                      refine thn_normal ?_
                      refine W_seq ?_
                      refine W_region rfl ?_
                      refine WO_p (PS_assign_bool rfl) ?_
                      refine WO_nil ?_
                      refine thn_normal ?_
                      refine W_ret ?_
                      refine bodyQ_ret1 Hvad.results268 rfl (.bool _) rfl ?_
                      first
                      | (rw [undo_0 (by omega) h0 hx]; exact ⟨rfl, _, _, hV, hS⟩)
                      | (rw [undo_1 (by omega) h0 hx]; exact ⟨rfl, _, _, hV, hS⟩)
                      | (rw [undo_2 (by omega) h0 hx]; exact ⟨rfl, _, _, hV, hS⟩)
                      | (rw [undo_4 (by omega) h0 hx]; exact ⟨rfl, _, _, hV, hS⟩)
                      | (rw [undo_9 (by omega) h0 hx]; exact ⟨rfl, _, _, hV, hS⟩)
                      | (rw [undo_10 (by omega) h0 hx]; exact ⟨rfl, _, _, hV, hS⟩)
                      | (rw [undo_3 (by omega) h0 hx]; exact ⟨rfl, _, _, hV, hS⟩)
                      | (rw [undo_5 (by omega) h0 hx]; exact ⟨rfl, _, _, hV, hS⟩)
                      | (rw [undo_8 (by omega) h0 hx]; exact ⟨rfl, _, _, hV, hS⟩)
                      | (rw [undo_6 (by omega)]; exact ⟨rfl, _, _, hV, hS⟩)
                      | (rw [undo_7 (by omega) (by omega)]; exact ⟨rfl, _, _, hV, hS⟩)
                      | (rw [undo_7n (by omega) (by omega)]; exact ⟨rfl, VRet.ext hv (by repeat (first | assumption | exact Ext.refl _ | refine Ext.alloc ?_ _ | refine Ext.drew ?_ | refine Ext.setB ?_ (by first | omega | (simp only [size_alloc, size_setB, size_drew]; omega)) _ | refine Ext.trans ?_ (by assumption)))⟩)
                      | (rw [undo_An (by unfold Entry.isA; omega) (by omega)]; exact ⟨rfl, VRet.ext hv (by repeat (first | assumption | exact Ext.refl _ | refine Ext.alloc ?_ _ | refine Ext.drew ?_ | refine Ext.setB ?_ (by first | omega | (simp only [size_alloc, size_setB, size_drew]; omega)) _ | refine Ext.trans ?_ (by assumption)))⟩)
                      | (rw [undo_Sn (by unfold Entry.isS; omega) (by omega)]; exact ⟨rfl, VRet.ext hv (by repeat (first | assumption | exact Ext.refl _ | refine Ext.alloc ?_ _ | refine Ext.drew ?_ | refine Ext.setB ?_ (by first | omega | (simp only [size_alloc, size_setB, size_drew]; omega)) _ | refine Ext.trans ?_ (by assumption)))⟩)
                      | (rw [undo_8n (by omega) (by omega)]; exact ⟨rfl, VRet.ext hv (by repeat (first | assumption | exact Ext.refl _ | refine Ext.alloc ?_ _ | refine Ext.drew ?_ | refine Ext.setB ?_ (by first | omega | (simp only [size_alloc, size_setB, size_drew]; omega)) _ | refine Ext.trans ?_ (by assumption)))⟩)
                      | (rw [undo_n (by unfold Entry.isA; omega) (by unfold Entry.isS; omega) (by omega) (by omega) (by omega)]; exact ⟨rfl, VRet.ext hv (by repeat (first | assumption | exact Ext.refl _ | refine Ext.alloc ?_ _ | refine Ext.drew ?_ | refine Ext.setB ?_ (by first | omega | (simp only [size_alloc, size_setB, size_drew]; omega)) _ | refine Ext.trans ?_ (by assumption)))⟩)
                      | (exfalso; omega)
                    · have hb134p := hb134.h; simp only [al_ete, al_dfn, Bool.not_eq_true', Bool.not_eq_false', al_ne, Bool.not_not, al_nn] at hb134p
                      refine W_drawE [false, false, false, false, false, false, false, false, false, false, false, false, false, false, false] hmix (by kernel_rfl) rfl ?_
                      refine WH_p (PS_move_ptr rfl) rfl ?_
                      refine WH_p (PS_nilCheck rfl) rfl ?_
                      refine WH_p (PS_fieldAddr 1 Hvad.runUnderlying79 rfl Hvad.sizeOf71 rfl rfl) rfl ?_
                      refine WH_load (.slice _ _ _) Hvad.isAgg71 rfl (Hb.h (by repeat (first | assumption | exact Hb.newY _ _ | refine Hb.alloc ?_ | refine Hb.drew ?_ | refine Hb.ext (by assumption) ?_ | exact Hb.setSameL (by first | omega | (simp only [size_alloc, size_setB, size_drew]; omega)) | exact Hb.setSame (by assumption) | refine Hb.set (by first | omega | (simp only [size_alloc, size_setB, size_drew]; omega)) ?_ ))) (Ce.h (by first | assumption | exact ⟨rfl⟩)) ?_
                      refine WH_p (PS_move_ptr rfl) rfl ?_
                      refine WH_p (PS_nilCheck rfl) rfl ?_
                      refine WH_p (PS_fieldAddr 1 Hvad.runUnderlying173 rfl Hvad.sizeOf21 rfl rfl) rfl ?_
                      refine WH_load (.int _ _) Hvad.isAgg21 rfl (Hb.h (by repeat (first | assumption | exact Hb.newY _ _ | refine Hb.alloc ?_ | refine Hb.drew ?_ | refine Hb.ext (by assumption) ?_ | exact Hb.setSameL (by first | omega | (simp only [size_alloc, size_setB, size_drew]; omega)) | exact Hb.setSame (by assumption) | refine Hb.set (by first | omega | (simp only [size_alloc, size_setB, size_drew]; omega)) ?_ ))) (Ce.h (by first | assumption | exact ⟨rfl⟩)) ?_
                      refine WH_p (PS_move_ptr rfl) rfl ?_
                      refine WH_p (PS_nilCheck rfl) rfl ?_
                      refine WH_p (PS_fieldAddr 8 Hvad.runUnderlying173 rfl Hvad.sizeOf4 rfl rfl) rfl ?_
                      refine WH_load (.bool _) Hvad.isAgg4 rfl (Hb.h (by repeat (first | assumption | exact Hb.newY _ _ | refine Hb.alloc ?_ | refine Hb.drew ?_ | refine Hb.ext (by assumption) ?_ | exact Hb.setSameL (by first | omega | (simp only [size_alloc, size_setB, size_drew]; omega)) | exact Hb.setSame (by assumption) | refine Hb.set (by first | omega | (simp only [size_alloc, size_setB, size_drew]; omega)) ?_ ))) (Ce.h (by first | assumption | exact ⟨rfl⟩)) ?_
                      refine WH_p (PS_indexS Hvad.runUnderlying71 Hvad.sizeOf152 rfl rfl (by omega) (by omega)) rfl ?_
                      refine WH_p (PS_fieldAddr 13 Hvad.runUnderlying152 rfl Hvad.sizeOf4 rfl rfl) rfl ?_
                      have hv2 := hv.ext (Ext.drew (Ext.drew (Ext.refl _)))
                      have hr2 := hr.drew.drew
                      refine WH_store1 Hvad.sizeOf4 rfl (v := .bool _) rfl hr2.h rfl (by omega) rfl (fun h => by cases h) ?_
                      obtain ⟨hV, hS⟩ := hv2.wS_warm hx hab hcap hr2 hrs hrow e.flag trivial
                      replace hS := VStep.pre (Ext.drew (Ext.drew (Ext.refl _))) hS
                      refine WH_nil ?_
                      refine inBlk_normal ?_
                      refine thn_normal ?_
                      refine W_seq ?_
                      refine W_region rfl ?_
                      refine WO_p (PS_assign_bool rfl) ?_
                      refine WO_nil ?_
                      refine thn_normal ?_
                      refine W_ret ?_
                      refine bodyQ_ret1 Hvad.results268 rfl (.bool _) rfl ?_
                      first
                      | (rw [undo_0 (by omega) h0 hx]; exact ⟨rfl, _, _, hV, hS⟩)
                      | (rw [undo_1 (by omega) h0 hx]; exact ⟨rfl, _, _, hV, hS⟩)
                      | (rw [undo_2 (by omega) h0 hx]; exact ⟨rfl, _, _, hV, hS⟩)
                      | (rw [undo_4 (by omega) h0 hx]; exact ⟨rfl, _, _, hV, hS⟩)
                      | (rw [undo_9 (by omega) h0 hx]; exact ⟨rfl, _, _, hV, hS⟩)
                      | (rw [undo_10 (by omega) h0 hx]; exact ⟨rfl, _, _, hV, hS⟩)
                      | (rw [undo_3 (by omega) h0 hx]; exact ⟨rfl, _, _, hV, hS⟩)
                      | (rw [undo_5 (by omega) h0 hx]; exact ⟨rfl, _, _, hV, hS⟩)
                      | (rw [undo_8 (by omega) h0 hx]; exact ⟨rfl, _, _, hV, hS⟩)
                      | (rw [undo_6 (by omega)]; exact ⟨rfl, _, _, hV, hS⟩)
                      | (rw [undo_7 (by omega) (by omega)]; exact ⟨rfl, _, _, hV, hS⟩)
                      | (rw [undo_7n (by omega) (by omega)]; exact ⟨rfl, VRet.ext hv (by repeat (first | assumption | exact Ext.refl _ | refine Ext.alloc ?_ _ | refine Ext.drew ?_ | refine Ext.setB ?_ (by first | omega | (simp only [size_alloc, size_setB, size_drew]; omega)) _ | refine Ext.trans ?_ (by assumption)))⟩)
                      | (rw [undo_An (by unfold Entry.isA; omega) (by omega)]; exact ⟨rfl, VRet.ext hv (by repeat (first | assumption | exact Ext.refl _ | refine Ext.alloc ?_ _ | refine Ext.drew ?_ | refine Ext.setB ?_ (by first | omega | (simp only [size_alloc, size_setB, size_drew]; omega)) _ | refine Ext.trans ?_ (by assumption)))⟩)
                      | (rw [undo_Sn (by unfold Entry.isS; omega) (by omega)]; exact ⟨rfl, VRet.ext hv (by repeat (first | assumption | exact Ext.refl _ | refine Ext.alloc ?_ _ | refine Ext.drew ?_ | refine Ext.setB ?_ (by first | omega | (simp only [size_alloc, size_setB, size_drew]; omega)) _ | refine Ext.trans ?_ (by assumption)))⟩)
                      | (rw [undo_8n (by omega) (by omega)]; exact ⟨rfl, VRet.ext hv (by repeat (first | assumption | exact Ext.refl _ | refine Ext.alloc ?_ _ | refine Ext.drew ?_ | refine Ext.setB ?_ (by first | omega | (simp only [size_alloc, size_setB, size_drew]; omega)) _ | refine Ext.trans ?_ (by assumption)))⟩)
                      | (rw [undo_n (by unfold Entry.isA; omega) (by unfold Entry.isS; omega) (by omega) (by omega) (by omega)]; exact ⟨rfl, VRet.ext hv (by repeat (first | assumption | exact Ext.refl _ | refine Ext.alloc ?_ _ | refine Ext.drew ?_ | refine Ext.setB ?_ (by first | omega | (simp only [size_alloc, size_setB, size_drew]; omega)) _ | refine Ext.trans ?_ (by assumption)))⟩)
                      | (exfalso; omega)
              · have hb128p := hb128.h; simp only [al_ete, al_dfn, Bool.not_eq_true', Bool.not_eq_false', al_ne, Bool.not_not, al_nn] at hb128p
                refine W_region rfl ?_
                refine WO_p (PS_eql rfl rfl) ?_
                refine WO_p (PS_assign_bool rfl) ?_
                refine WO_nil ?_
                refine thn_normal ?_
                refine W_if rfl (fun hb137 => ?_) (fun hb137 => ?_)
                · have hb137p := hb137.h; simp only [al_ete, al_dfn, Bool.not_eq_true', Bool.not_eq_false', al_ne, Bool.not_not, al_nn] at hb137p
                  refine W_seq ?_
                  refine W_seq ?_
                  refine W_drawE [false, false, false, false, false, false, false, false, false, false, false, false, false, false, false, false, false, false] hmix (by kernel_rfl) rfl ?_
                  refine WH_p (PS_move_ptr rfl) rfl ?_
                  refine WH_p (PS_nilCheck rfl) rfl ?_
                  refine WH_p (PS_fieldAddr 1 Hvad.runUnderlying173 rfl Hvad.sizeOf21 rfl rfl) rfl ?_
                  refine WH_load (.int _ _) Hvad.isAgg21 rfl (Hb.h (by repeat (first | assumption | exact Hb.newY _ _ | refine Hb.alloc ?_ | refine Hb.drew ?_ | refine Hb.ext (by assumption) ?_ | exact Hb.setSameL (by first | omega | (simp only [size_alloc, size_setB, size_drew]; omega)) | exact Hb.setSame (by assumption) | refine Hb.set (by first | omega | (simp only [size_alloc, size_setB, size_drew]; omega)) ?_ ))) (Ce.h (by first | assumption | exact ⟨rfl⟩)) ?_
                  refine WH_p (PS_lss rfl rfl) rfl ?_
                  refine WH_p (PS_move_bool rfl) rfl ?_
                  refine WH_if (t := 110) rfl (fun hb139 => ?_) (fun hb139 => ?_)
                  · have hb139p := hb139.h; simp only [al_ete, al_dfn, Bool.not_eq_true', Bool.not_eq_false', al_ne, Bool.not_not, al_nn] at hb139p
                    refine WH_guardF rfl rfl hb139.h ?_
                    refine WH_guardF rfl rfl hb139.h ?_
                    refine WH_guardF rfl rfl hb139.h ?_
                    refine WH_guardF rfl rfl hb139.h ?_
                    refine WH_guardF rfl rfl hb139.h ?_
                    refine WH_guardF rfl rfl hb139.h ?_
                    refine WH_guardF rfl rfl hb139.h ?_
                    refine WH_guardF rfl rfl hb139.h ?_
                    refine WH_guardF rfl rfl hb139.h ?_
                    refine WH_guardF rfl rfl hb139.h ?_
                    refine WH_guardF rfl rfl hb139.h ?_
                    refine WH_p (PS_pickT rfl hb139.h rfl) rfl ?_
                    refine WH_nil ?_
                    refine thn_normal ?_
                    refine W_condT rfl rfl ?_
                    refine W_seq ?_
                    refine W_region rfl ?_
                    refine WO_p (PS_assign_bool rfl) ?_
                    refine WO_nil ?_
                    refine thn_normal ?_
                    refine W_ret ?_
                    refine thn_ret ?_
                    refine inBlk_ret ?_
                    refine thn_ret ?_
                    refine bodyQ_ret1 Hvad.results268 rfl (.bool _) rfl ?_
                    first
                    | (rw [undo_0 (by omega) h0 hx]; exact ⟨rfl, _, _, hV, hS⟩)
                    | (rw [undo_1 (by omega) h0 hx]; exact ⟨rfl, _, _, hV, hS⟩)
                    | (rw [undo_2 (by omega) h0 hx]; exact ⟨rfl, _, _, hV, hS⟩)
                    | (rw [undo_4 (by omega) h0 hx]; exact ⟨rfl, _, _, hV, hS⟩)
                    | (rw [undo_9 (by omega) h0 hx]; exact ⟨rfl, _, _, hV, hS⟩)
                    | (rw [undo_10 (by omega) h0 hx]; exact ⟨rfl, _, _, hV, hS⟩)
                    | (rw [undo_3 (by omega) h0 hx]; exact ⟨rfl, _, _, hV, hS⟩)
                    | (rw [undo_5 (by omega) h0 hx]; exact ⟨rfl, _, _, hV, hS⟩)
                    | (rw [undo_8 (by omega) h0 hx]; exact ⟨rfl, _, _, hV, hS⟩)
                    | (rw [undo_6 (by omega)]; exact ⟨rfl, _, _, hV, hS⟩)
                    | (rw [undo_7 (by omega) (by omega)]; exact ⟨rfl, _, _, hV, hS⟩)
                    | (rw [undo_7n (by omega) (by omega)]; exact ⟨rfl, VRet.ext hv (by repeat (first | assumption | exact Ext.refl _ | refine Ext.alloc ?_ _ | refine Ext.drew ?_ | refine Ext.setB ?_ (by first | omega | (simp only [size_alloc, size_setB, size_drew]; omega)) _ | refine Ext.trans ?_ (by assumption)))⟩)
                    | (rw [undo_An (by unfold Entry.isA; omega) (by omega)]; exact ⟨rfl, VRet.ext hv (by repeat (first | assumption | exact Ext.refl _ | refine Ext.alloc ?_ _ | refine Ext.drew ?_ | refine Ext.setB ?_ (by first | omega | (simp only [size_alloc, size_setB, size_drew]; omega)) _ | refine Ext.trans ?_ (by assumption)))⟩)
                    | (rw [undo_Sn (by unfold Entry.isS; omega) (by omega)]; exact ⟨rfl, VRet.ext hv (by repeat (first | assumption | exact Ext.refl _ | refine Ext.alloc ?_ _ | refine Ext.drew ?_ | refine Ext.setB ?_ (by first | omega | (simp only [size_alloc, size_setB, size_drew]; omega)) _ | refine Ext.trans ?_ (by assumption)))⟩)
                    | (rw [undo_8n (by omega) (by omega)]; exact ⟨rfl, VRet.ext hv (by repeat (first | assumption | exact Ext.refl _ | refine Ext.alloc ?_ _ | refine Ext.drew ?_ | refine Ext.setB ?_ (by first | omega | (simp only [size_alloc, size_setB, size_drew]; omega)) _ | refine Ext.trans ?_ (by assumption)))⟩)
                    | (rw [undo_n (by unfold Entry.isA; omega) (by unfold Entry.isS; omega) (by omega) (by omega) (by omega)]; exact ⟨rfl, VRet.ext hv (by repeat (first | assumption | exact Ext.refl _ | refine Ext.alloc ?_ _ | refine Ext.drew ?_ | refine Ext.setB ?_ (by first | omega | (simp only [size_alloc, size_setB, size_drew]; omega)) _ | refine Ext.trans ?_ (by assumption)))⟩)
                    | (exfalso; omega)
                  · have hb139p := hb139.h; simp only [al_ete, al_dfn, Bool.not_eq_true', Bool.not_eq_false', al_ne, Bool.not_not, al_nn] at hb139p
                    refine WH_guardT rfl rfl hb139.h ?_
                    refine WH_p (PS_move_ptr rfl) rfl ?_
                    refine WH_guardT rfl rfl hb139.h ?_
                    refine WH_p (PS_nilCheck rfl) rfl ?_
                    refine WH_guardT rfl rfl hb139.h ?_
                    refine WH_p (PS_fieldAddr 1 Hvad.runUnderlying173 rfl Hvad.sizeOf21 rfl rfl) rfl ?_
                    refine WH_guardT rfl rfl hb139.h ?_
                    refine WH_load (.int _ _) Hvad.isAgg21 rfl (Hb.h (by repeat (first | assumption | exact Hb.newY _ _ | refine Hb.alloc ?_ | refine Hb.drew ?_ | refine Hb.ext (by assumption) ?_ | exact Hb.setSameL (by first | omega | (simp only [size_alloc, size_setB, size_drew]; omega)) | exact Hb.setSame (by assumption) | refine Hb.set (by first | omega | (simp only [size_alloc, size_setB, size_drew]; omega)) ?_ ))) (Ce.h (by first | assumption | exact ⟨rfl⟩)) ?_
                    refine WH_guardT rfl rfl hb139.h ?_
                    refine WH_p (PS_conv_i64n Hvad.runUnderlying21 Hvad.runUnderlying3 rfl (by omega) (by omega)) rfl ?_
                    refine WH_guardT rfl rfl hb139.h ?_
                    refine WH_p (PS_move_ptr rfl) rfl ?_
                    refine WH_guardT rfl rfl hb139.h ?_
                    refine WH_p (PS_nilCheck rfl) rfl ?_
                    refine WH_guardT rfl rfl hb139.h ?_
                    refine WH_p (PS_fieldAddr 1 Hvad.runUnderlying79 rfl Hvad.sizeOf71 rfl rfl) rfl ?_
                    refine WH_guardT rfl rfl hb139.h ?_
                    refine WH_load (.slice _ _ _) Hvad.isAgg71 rfl (Hb.h (by repeat (first | assumption | exact Hb.newY _ _ | refine Hb.alloc ?_ | refine Hb.drew ?_ | refine Hb.ext (by assumption) ?_ | exact Hb.setSameL (by first | omega | (simp only [size_alloc, size_setB, size_drew]; omega)) | exact Hb.setSame (by assumption) | refine Hb.set (by first | omega | (simp only [size_alloc, size_setB, size_drew]; omega)) ?_ ))) (Ce.h (by first | assumption | exact ⟨rfl⟩)) ?_
                    refine WH_guardT rfl rfl hb139.h ?_
                    refine WH_p (PS_lenS Hvad.runUnderlying71 rfl) rfl ?_
                    refine WH_guardT rfl rfl hb139.h ?_
                    refine WH_p (PS_geq rfl rfl) rfl ?_
                    refine WH_p (PS_pickF rfl hb139.h rfl) rfl ?_
                    refine WH_nil ?_
                    refine thn_normal ?_
                    refine W_if rfl (fun hb141 => ?_) (fun hb141 => ?_)
                    · have hb141p := hb141.h; simp only [al_ete, al_dfn, Bool.not_eq_true', Bool.not_eq_false', al_ne, Bool.not_not, al_nn] at hb141p
                      refine W_seq ?_
                      refine W_region rfl ?_
                      refine WO_p (PS_assign_bool rfl) ?_
                      refine WO_nil ?_
                      refine thn_normal ?_
                      refine W_ret ?_
                      refine thn_ret ?_
                      refine inBlk_ret ?_
                      refine thn_ret ?_
                      refine bodyQ_ret1 Hvad.results268 rfl (.bool _) rfl ?_
                      first
                      | (rw [undo_0 (by omega) h0 hx]; exact ⟨rfl, _, _, hV, hS⟩)
                      | (rw [undo_1 (by omega) h0 hx]; exact ⟨rfl, _, _, hV, hS⟩)
                      | (rw [undo_2 (by omega) h0 hx]; exact ⟨rfl, _, _, hV, hS⟩)
                      | (rw [undo_4 (by omega) h0 hx]; exact ⟨rfl, _, _, hV, hS⟩)
                      | (rw [undo_9 (by omega) h0 hx]; exact ⟨rfl, _, _, hV, hS⟩)
                      | (rw [undo_10 (by omega) h0 hx]; exact ⟨rfl, _, _, hV, hS⟩)
                      | (rw [undo_3 (by omega) h0 hx]; exact ⟨rfl, _, _, hV, hS⟩)
                      | (rw [undo_5 (by omega) h0 hx]; exact ⟨rfl, _, _, hV, hS⟩)
                      | (rw [undo_8 (by omega) h0 hx]; exact ⟨rfl, _, _, hV, hS⟩)
                      | (rw [undo_6 (by omega)]; exact ⟨rfl, _, _, hV, hS⟩)
                      | (rw [undo_7 (by omega) (by omega)]; exact ⟨rfl, _, _, hV, hS⟩)
                      | (rw [undo_7n (by omega) (by omega)]; exact ⟨rfl, VRet.ext hv (by repeat (first | assumption | exact Ext.refl _ | refine Ext.alloc ?_ _ | refine Ext.drew ?_ | refine Ext.setB ?_ (by first | omega | (simp only [size_alloc, size_setB, size_drew]; omega)) _ | refine Ext.trans ?_ (by assumption)))⟩)
                      | (rw [undo_An (by unfold Entry.isA; omega) (by omega)]; exact ⟨rfl, VRet.ext hv (by repeat (first | assumption | exact Ext.refl _ | refine Ext.alloc ?_ _ | refine Ext.drew ?_ | refine Ext.setB ?_ (by first | omega | (simp only [size_alloc, size_setB, size_drew]; omega)) _ | refine Ext.trans ?_ (by assumption)))⟩)
                      | (rw [undo_Sn (by unfold Entry.isS; omega) (by omega)]; exact ⟨rfl, VRet.ext hv (by repeat (first | assumption | exact Ext.refl _ | refine Ext.alloc ?_ _ | refine Ext.drew ?_ | refine Ext.setB ?_ (by first | omega | (simp only [size_alloc, size_setB, size_drew]; omega)) _ | refine Ext.trans ?_ (by assumption)))⟩)
                      | (rw [undo_8n (by omega) (by omega)]; exact ⟨rfl, VRet.ext hv (by repeat (first | assumption | exact Ext.refl _ | refine Ext.alloc ?_ _ | refine Ext.drew ?_ | refine Ext.setB ?_ (by first | omega | (simp only [size_alloc, size_setB, size_drew]; omega)) _ | refine Ext.trans ?_ (by assumption)))⟩)
                      | (rw [undo_n (by unfold Entry.isA; omega) (by unfold Entry.isS; omega) (by omega) (by omega) (by omega)]; exact ⟨rfl, VRet.ext hv (by repeat (first | assumption | exact Ext.refl _ | refine Ext.alloc ?_ _ | refine Ext.drew ?_ | refine Ext.setB ?_ (by first | omega | (simp only [size_alloc, size_setB, size_drew]; omega)) _ | refine Ext.trans ?_ (by assumption)))⟩)
                      | (exfalso; omega)
                    · have hb141p := hb141.h; simp only [al_ete, al_dfn, Bool.not_eq_true', Bool.not_eq_false', al_ne, Bool.not_not, al_nn] at hb141p
                      have h0 : 0 ≤ e.at_ := by omega
                      obtain ⟨x, hx⟩ : ∃ x, v.slots[e.at_.toNat]? = some x := ⟨_, List.getElem?_eq_getElem (by omega)⟩
                      clear hds
                      obtain ⟨b, cap, r, hab, hcap, hr, hrs, hrow, hds, hbd, hil, hty, f0, f1, f2, f3, f4⟩ := hv.openS hx
                      refine W_skip ?_
                      refine thn_normal ?_
                      refine W_seq ?_
                      refine W_region rfl ?_
                      refine WO_p (PS_move_ptr rfl) ?_
                      refine WO_p (PS_nilCheck rfl) ?_
                      refine WO_p (PS_fieldAddr 0 Hvad.runUnderlying173 rfl Hvad.sizeOf5 rfl rfl) ?_
                      refine WO_load (.int _ _) Hvad.isAgg5 rfl (Hb.h (by repeat (first | assumption | exact Hb.newY _ _ | refine Hb.alloc ?_ | refine Hb.drew ?_ | refine Hb.ext (by assumption) ?_ | exact Hb.setSameL (by first | omega | (simp only [size_alloc, size_setB, size_drew]; omega)) | exact Hb.setSame (by assumption) | refine Hb.set (by first | omega | (simp only [size_alloc, size_setB, size_drew]; omega)) ?_ ))) (Ce.h (by first | assumption | exact ⟨rfl⟩)) ?_
                      refine WO_p (PS_eql rfl rfl) ?_
                      refine WO_nil ?_
                      refine thn_normal ?_
                      refine W_if rfl (fun hb143 => ?_) (fun hb143 => ?_)
                      · have hb143p := hb143.h; simp only [al_ete, al_dfn, Bool.not_eq_true', Bool.not_eq_false', al_ne, Bool.not_not, al_nn] at hb143p
                        refine W_drawE [false, false, false, false, false, false, false, false, false, false, false, false, false, false, false] hmix (by kernel_rfl) rfl ?_
                        refine WH_p (PS_move_ptr rfl) rfl ?_
                        refine WH_p (PS_nilCheck rfl) rfl ?_
                        refine WH_p (PS_fieldAddr 1 Hvad.runUnderlying79 rfl Hvad.sizeOf71 rfl rfl) rfl ?_
                        refine WH_load (.slice _ _ _) Hvad.isAgg71 rfl (Hb.h (by repeat (first | assumption | exact Hb.newY _ _ | refine Hb.alloc ?_ | refine Hb.drew ?_ | refine Hb.ext (by assumption) ?_ | exact Hb.setSameL (by first | omega | (simp only [size_alloc, size_setB, size_drew]; omega)) | exact Hb.setSame (by assumption) | refine Hb.set (by first | omega | (simp only [size_alloc, size_setB, size_drew]; omega)) ?_ ))) (Ce.h (by first | assumption | exact ⟨rfl⟩)) ?_
                        refine WH_p (PS_move_ptr rfl) rfl ?_
                        refine WH_p (PS_nilCheck rfl) rfl ?_
                        refine WH_p (PS_fieldAddr 1 Hvad.runUnderlying173 rfl Hvad.sizeOf21 rfl rfl) rfl ?_
                        refine WH_load (.int _ _) Hvad.isAgg21 rfl (Hb.h (by repeat (first | assumption | exact Hb.newY _ _ | refine Hb.alloc ?_ | refine Hb.drew ?_ | refine Hb.ext (by assumption) ?_ | exact Hb.setSameL (by first | omega | (simp only [size_alloc, size_setB, size_drew]; omega)) | exact Hb.setSame (by assumption) | refine Hb.set (by first | omega | (simp only [size_alloc, size_setB, size_drew]; omega)) ?_ ))) (Ce.h (by first | assumption | exact ⟨rfl⟩)) ?_
                        refine WH_p (PS_move_ptr rfl) rfl ?_
                        refine WH_p (PS_nilCheck rfl) rfl ?_
                        refine WH_p (PS_fieldAddr 3 Hvad.runUnderlying173 rfl Hvad.sizeOf59 rfl rfl) rfl ?_
                        refine WH_loadA _ Hvad.isAgg59 Hvad.sizeOf59 rfl (Hb.h (by repeat (first | assumption | exact Hb.newY _ _ | refine Hb.alloc ?_ | refine Hb.drew ?_ | refine Hb.ext (by assumption) ?_ | exact Hb.setSameL (by first | omega | (simp only [size_alloc, size_setB, size_drew]; omega)) | exact Hb.setSame (by assumption) | refine Hb.set (by first | omega | (simp only [size_alloc, size_setB, size_drew]; omega)) ?_ ))) (by first | omega | assumption | rfl | decide | (simp only [size_ic, Value.cells]; omega) | simp) (Xt.h (by first | assumption | exact Xt.whole rfl rfl | exact Xt.whole rfl (by simp only [size_ic, Value.cells]; omega) | exact ⟨rfl⟩)) ?_
                        refine WH_p (PS_indexS Hvad.runUnderlying71 Hvad.sizeOf152 rfl rfl (by omega) (by omega)) rfl ?_
                        refine WH_p (PS_fieldAddr 5 Hvad.runUnderlying152 rfl Hvad.sizeOf59 rfl rfl) rfl ?_
                        have hv2 := hv.ext (Ext.drew (Ext.drew (Ext.refl _)))
                        have hr2 := hr.drew.drew
                        refine WH_store Hvad.sizeOf59 rfl (v := .agg (ic .u64 e.w)) rfl hr2.h (by first | omega | assumption | rfl | decide | (simp only [size_ic, Value.cells]; omega) | simp) (by omega) (by first | exact oneCell_ic | assumption) (fun h => by cases h) ?_
                        obtain ⟨hV, hS⟩ := hv2.wS_val hx hab hcap hr2 hrs hrow e.w htj.2.2.2
                        replace hS := VStep.pre (Ext.drew (Ext.drew (Ext.refl _))) hS
                        refine WH_nil ?_
                        refine inBlk_normal ?_
                        refine thn_normal ?_
                        refine W_seq ?_
                        refine W_region rfl ?_
                        refine WO_p (PS_assign_bool rfl) ?_
                        refine WO_nil ?_
                        refine thn_normal ?_
                        refine W_ret ?_
                        refine bodyQ_ret1 Hvad.results268 rfl (.bool _) rfl ?_
                        first
                        | (rw [undo_0 (by omega) h0 hx]; exact ⟨rfl, _, _, hV, hS⟩)
                        | (rw [undo_1 (by omega) h0 hx]; exact ⟨rfl, _, _, hV, hS⟩)
                        | (rw [undo_2 (by omega) h0 hx]; exact ⟨rfl, _, _, hV, hS⟩)
                        | (rw [undo_4 (by omega) h0 hx]; exact ⟨rfl, _, _, hV, hS⟩)
                        | (rw [undo_9 (by omega) h0 hx]; exact ⟨rfl, _, _, hV, hS⟩)
                        | (rw [undo_10 (by omega) h0 hx]; exact ⟨rfl, _, _, hV, hS⟩)
                        | (rw [undo_3 (by omega) h0 hx]; exact ⟨rfl, _, _, hV, hS⟩)
                        | (rw [undo_5 (by omega) h0 hx]; exact ⟨rfl, _, _, hV, hS⟩)
                        | (rw [undo_8 (by omega) h0 hx]; exact ⟨rfl, _, _, hV, hS⟩)
                        | (rw [undo_6 (by omega)]; exact ⟨rfl, _, _, hV, hS⟩)
                        | (rw [undo_7 (by omega) (by omega)]; exact ⟨rfl, _, _, hV, hS⟩)
                        | (rw [undo_7n (by omega) (by omega)]; exact ⟨rfl, VRet.ext hv (by repeat (first | assumption | exact Ext.refl _ | refine Ext.alloc ?_ _ | refine Ext.drew ?_ | refine Ext.setB ?_ (by first | omega | (simp only [size_alloc, size_setB, size_drew]; omega)) _ | refine Ext.trans ?_ (by assumption)))⟩)
                        | (rw [undo_An (by unfold Entry.isA; omega) (by omega)]; exact ⟨rfl, VRet.ext hv (by repeat (first | assumption | exact Ext.refl _ | refine Ext.alloc ?_ _ | refine Ext.drew ?_ | refine Ext.setB ?_ (by first | omega | (simp only [size_alloc, size_setB, size_drew]; omega)) _ | refine Ext.trans ?_ (by assumption)))⟩)
                        | (rw [undo_Sn (by unfold Entry.isS; omega) (by omega)]; exact ⟨rfl, VRet.ext hv (by repeat (first | assumption | exact Ext.refl _ | refine Ext.alloc ?_ _ | refine Ext.drew ?_ | refine Ext.setB ?_ (by first | omega | (simp only [size_alloc, size_setB, size_drew]; omega)) _ | refine Ext.trans ?_ (by assumption)))⟩)
                        | (rw [undo_8n (by omega) (by omega)]; exact ⟨rfl, VRet.ext hv (by repeat (first | assumption | exact Ext.refl _ | refine Ext.alloc ?_ _ | refine Ext.drew ?_ | refine Ext.setB ?_ (by first | omega | (simp only [size_alloc, size_setB, size_drew]; omega)) _ | refine Ext.trans ?_ (by assumption)))⟩)
                        | (rw [undo_n (by unfold Entry.isA; omega) (by unfold Entry.isS; omega) (by omega) (by omega) (by omega)]; exact ⟨rfl, VRet.ext hv (by repeat (first | assumption | exact Ext.refl _ | refine Ext.alloc ?_ _ | refine Ext.drew ?_ | refine Ext.setB ?_ (by first | omega | (simp only [size_alloc, size_setB, size_drew]; omega)) _ | refine Ext.trans ?_ (by assumption)))⟩)
                        | (exfalso; omega)
                      · have hb143p := hb143.h; simp only [al_ete, al_dfn, Bool.not_eq_true', Bool.not_eq_false', al_ne, Bool.not_not, al_nn] at hb143p
                        refine W_drawE [false, false, false, false, false, false, false, false, false, false, false, false, false, false, false] hmix (by kernel_rfl) rfl ?_
                        refine WH_p (PS_move_ptr rfl) rfl ?_
                        refine WH_p (PS_nilCheck rfl) rfl ?_
                        refine WH_p (PS_fieldAddr 1 Hvad.runUnderlying79 rfl Hvad.sizeOf71 rfl rfl) rfl ?_
                        refine WH_load (.slice _ _ _) Hvad.isAgg71 rfl (Hb.h (by repeat (first | assumption | exact Hb.newY _ _ | refine Hb.alloc ?_ | refine Hb.drew ?_ | refine Hb.ext (by assumption) ?_ | exact Hb.setSameL (by first | omega | (simp only [size_alloc, size_setB, size_drew]; omega)) | exact Hb.setSame (by assumption) | refine Hb.set (by first | omega | (simp only [size_alloc, size_setB, size_drew]; omega)) ?_ ))) (Ce.h (by first | assumption | exact ⟨rfl⟩)) ?_
                        refine WH_p (PS_move_ptr rfl) rfl ?_
                        refine WH_p (PS_nilCheck rfl) rfl ?_
                        refine WH_p (PS_fieldAddr 1 Hvad.runUnderlying173 rfl Hvad.sizeOf21 rfl rfl) rfl ?_
                        refine WH_load (.int _ _) Hvad.isAgg21 rfl (Hb.h (by repeat (first | assumption | exact Hb.newY _ _ | refine Hb.alloc ?_ | refine Hb.drew ?_ | refine Hb.ext (by assumption) ?_ | exact Hb.setSameL (by first | omega | (simp only [size_alloc, size_setB, size_drew]; omega)) | exact Hb.setSame (by assumption) | refine Hb.set (by first | omega | (simp only [size_alloc, size_setB, size_drew]; omega)) ?_ ))) (Ce.h (by first | assumption | exact ⟨rfl⟩)) ?_
                        refine WH_p (PS_move_ptr rfl) rfl ?_
                        refine WH_p (PS_nilCheck rfl) rfl ?_
                        refine WH_p (PS_fieldAddr 8 Hvad.runUnderlying173 rfl Hvad.sizeOf4 rfl rfl) rfl ?_
                        refine WH_load (.bool _) Hvad.isAgg4 rfl (Hb.h (by repeat (first | assumption | exact Hb.newY _ _ | refine Hb.alloc ?_ | refine Hb.drew ?_ | refine Hb.ext (by assumption) ?_ | exact Hb.setSameL (by first | omega | (simp only [size_alloc, size_setB, size_drew]; omega)) | exact Hb.setSame (by assumption) | refine Hb.set (by first | omega | (simp only [size_alloc, size_setB, size_drew]; omega)) ?_ ))) (Ce.h (by first | assumption | exact ⟨rfl⟩)) ?_
                        refine WH_p (PS_indexS Hvad.runUnderlying71 Hvad.sizeOf152 rfl rfl (by omega) (by omega)) rfl ?_
                        refine WH_p (PS_fieldAddr 13 Hvad.runUnderlying152 rfl Hvad.sizeOf4 rfl rfl) rfl ?_
                        have hv2 := hv.ext (Ext.drew (Ext.drew (Ext.refl _)))
                        have hr2 := hr.drew.drew
                        refine WH_store1 Hvad.sizeOf4 rfl (v := .bool _) rfl hr2.h rfl (by omega) rfl (fun h => by cases h) ?_
                        obtain ⟨hV, hS⟩ := hv2.wS_warm hx hab hcap hr2 hrs hrow e.flag trivial
                        replace hS := VStep.pre (Ext.drew (Ext.drew (Ext.refl _))) hS
                        refine WH_nil ?_
                        refine inBlk_normal ?_
                        refine thn_normal ?_
                        refine W_seq ?_
                        refine W_region rfl ?_
                        refine WO_p (PS_assign_bool rfl) ?_
                        refine WO_nil ?_
                        refine thn_normal ?_
                        refine W_ret ?_
                        refine bodyQ_ret1 Hvad.results268 rfl (.bool _) rfl ?_
                        first
                        | (rw [undo_0 (by omega) h0 hx]; exact ⟨rfl, _, _, hV, hS⟩)
                        | (rw [undo_1 (by omega) h0 hx]; exact ⟨rfl, _, _, hV, hS⟩)
                        | (rw [undo_2 (by omega) h0 hx]; exact ⟨rfl, _, _, hV, hS⟩)
                        | (rw [undo_4 (by omega) h0 hx]; exact ⟨rfl, _, _, hV, hS⟩)
                        | (rw [undo_9 (by omega) h0 hx]; exact ⟨rfl, _, _, hV, hS⟩)
                        | (rw [undo_10 (by omega) h0 hx]; exact ⟨rfl, _, _, hV, hS⟩)
                        | (rw [undo_3 (by omega) h0 hx]; exact ⟨rfl, _, _, hV, hS⟩)
                        | (rw [undo_5 (by omega) h0 hx]; exact ⟨rfl, _, _, hV, hS⟩)
                        | (rw [undo_8 (by omega) h0 hx]; exact ⟨rfl, _, _, hV, hS⟩)
                        | (rw [undo_6 (by omega)]; exact ⟨rfl, _, _, hV, hS⟩)
                        | (rw [undo_7 (by omega) (by omega)]; exact ⟨rfl, _, _, hV, hS⟩)
                        | (rw [undo_7n (by omega) (by omega)]; exact ⟨rfl, VRet.ext hv (by repeat (first | assumption | exact Ext.refl _ | refine Ext.alloc ?_ _ | refine Ext.drew ?_ | refine Ext.setB ?_ (by first | omega | (simp only [size_alloc, size_setB, size_drew]; omega)) _ | refine Ext.trans ?_ (by assumption)))⟩)
                        | (rw [undo_An (by unfold Entry.isA; omega) (by omega)]; exact ⟨rfl, VRet.ext hv (by repeat (first | assumption | exact Ext.refl _ | refine Ext.alloc ?_ _ | refine Ext.drew ?_ | refine Ext.setB ?_ (by first | omega | (simp only [size_alloc, size_setB, size_drew]; omega)) _ | refine Ext.trans ?_ (by assumption)))⟩)
                        | (rw [undo_Sn (by unfold Entry.isS; omega) (by omega)]; exact ⟨rfl, VRet.ext hv (by repeat (first | assumption | exact Ext.refl _ | refine Ext.alloc ?_ _ | refine Ext.drew ?_ | refine Ext.setB ?_ (by first | omega | (simp only [size_alloc, size_setB, size_drew]; omega)) _ | refine Ext.trans ?_ (by assumption)))⟩)
                        | (rw [undo_8n (by omega) (by omega)]; exact ⟨rfl, VRet.ext hv (by repeat (first | assumption | exact Ext.refl _ | refine Ext.alloc ?_ _ | refine Ext.drew ?_ | refine Ext.setB ?_ (by first | omega | (simp only [size_alloc, size_setB, size_drew]; omega)) _ | refine Ext.trans ?_ (by assumption)))⟩)
                        | (rw [undo_n (by unfold Entry.isA; omega) (by unfold Entry.isS; omega) (by omega) (by omega) (by omega)]; exact ⟨rfl, VRet.ext hv (by repeat (first | assumption | exact Ext.refl _ | refine Ext.alloc ?_ _ | refine Ext.drew ?_ | refine Ext.setB ?_ (by first | omega | (simp only [size_alloc, size_setB, size_drew]; omega)) _ | refine Ext.trans ?_ (by assumption)))⟩)
                        | (exfalso; omega)
                · have hb137p := hb137.h; simp only [al_ete, al_dfn, Bool.not_eq_true', Bool.not_eq_false', al_ne, Bool.not_not, al_nn] at hb137p
                  refine W_seq ?_
                  refine W_region rfl ?_
                  refine WO_p (PS_eql rfl rfl) ?_
                  refine WO_p (PS_assign_bool rfl) ?_
                  refine WO_nil ?_
                  refine thn_normal ?_
                  refine W_if rfl (fun hb146 => ?_) (fun hb146 => ?_)
                  · have hb146p := hb146.h; simp only [al_ete, al_dfn, Bool.not_eq_true', Bool.not_eq_false', al_ne, Bool.not_not, al_nn] at hb146p
                    refine W_seq ?_
                    refine W_seq ?_
                    refine W_drawE [false, false, false, false, false, false, false, false, false, false, false, false, false, false, false, false, false, false] hmix (by kernel_rfl) rfl ?_
                    refine WH_p (PS_move_ptr rfl) rfl ?_
                    refine WH_p (PS_nilCheck rfl) rfl ?_
                    refine WH_p (PS_fieldAddr 1 Hvad.runUnderlying173 rfl Hvad.sizeOf21 rfl rfl) rfl ?_
                    refine WH_load (.int _ _) Hvad.isAgg21 rfl (Hb.h (by repeat (first | assumption | exact Hb.newY _ _ | refine Hb.alloc ?_ | refine Hb.drew ?_ | refine Hb.ext (by assumption) ?_ | exact Hb.setSameL (by first | omega | (simp only [size_alloc, size_setB, size_drew]; omega)) | exact Hb.setSame (by assumption) | refine Hb.set (by first | omega | (simp only [size_alloc, size_setB, size_drew]; omega)) ?_ ))) (Ce.h (by first | assumption | exact ⟨rfl⟩)) ?_
                    refine WH_p (PS_lss rfl rfl) rfl ?_
                    refine WH_p (PS_move_bool rfl) rfl ?_
                    refine WH_if (t := 163) rfl (fun hb148 => ?_) (fun hb148 => ?_)
                    · have hb148p := hb148.h; simp only [al_ete, al_dfn, Bool.not_eq_true', Bool.not_eq_false', al_ne, Bool.not_not, al_nn] at hb148p
                      refine WH_guardF rfl rfl hb148.h ?_
                      refine WH_guardF rfl rfl hb148.h ?_
                      refine WH_guardF rfl rfl hb148.h ?_
                      refine WH_guardF rfl rfl hb148.h ?_
                      refine WH_guardF rfl rfl hb148.h ?_
                      refine WH_guardF rfl rfl hb148.h ?_
                      refine WH_guardF rfl rfl hb148.h ?_
                      refine WH_guardF rfl rfl hb148.h ?_
                      refine WH_guardF rfl rfl hb148.h ?_
                      refine WH_guardF rfl rfl hb148.h ?_
                      refine WH_guardF rfl rfl hb148.h ?_
                      refine WH_p (PS_pickT rfl hb148.h rfl) rfl ?_
                      refine WH_nil ?_
                      refine thn_normal ?_
                      refine W_condT rfl rfl ?_
                      refine W_seq ?_
                      refine W_region rfl ?_
                      refine WO_p (PS_assign_bool rfl) ?_
                      refine WO_nil ?_
                      refine thn_normal ?_
                      refine W_ret ?_
                      refine thn_ret ?_
                      refine inBlk_ret ?_
                      refine thn_ret ?_
                      refine bodyQ_ret1 Hvad.results268 rfl (.bool _) rfl ?_
                      first
                      | (rw [undo_0 (by omega) h0 hx]; exact ⟨rfl, _, _, hV, hS⟩)
                      | (rw [undo_1 (by omega) h0 hx]; exact ⟨rfl, _, _, hV, hS⟩)
                      | (rw [undo_2 (by omega) h0 hx]; exact ⟨rfl, _, _, hV, hS⟩)
                      | (rw [undo_4 (by omega) h0 hx]; exact ⟨rfl, _, _, hV, hS⟩)
                      | (rw [undo_9 (by omega) h0 hx]; exact ⟨rfl, _, _, hV, hS⟩)
                      | (rw [undo_10 (by omega) h0 hx]; exact ⟨rfl, _, _, hV, hS⟩)
                      | (rw [undo_3 (by omega) h0 hx]; exact ⟨rfl, _, _, hV, hS⟩)
                      | (rw [undo_5 (by omega) h0 hx]; exact ⟨rfl, _, _, hV, hS⟩)
                      | (rw [undo_8 (by omega) h0 hx]; exact ⟨rfl, _, _, hV, hS⟩)
                      | (rw [undo_6 (by omega)]; exact ⟨rfl, _, _, hV, hS⟩)
                      | (rw [undo_7 (by omega) (by omega)]; exact ⟨rfl, _, _, hV, hS⟩)
                      | (rw [undo_7n (by omega) (by omega)]; exact ⟨rfl, VRet.ext hv (by repeat (first | assumption | exact Ext.refl _ | refine Ext.alloc ?_ _ | refine Ext.drew ?_ | refine Ext.setB ?_ (by first | omega | (simp only [size_alloc, size_setB, size_drew]; omega)) _ | refine Ext.trans ?_ (by assumption)))⟩)
                      | (rw [undo_An (by unfold Entry.isA; omega) (by omega)]; exact ⟨rfl, VRet.ext hv (by repeat (first | assumption | exact Ext.refl _ | refine Ext.alloc ?_ _ | refine Ext.drew ?_ | refine Ext.setB ?_ (by first | omega | (simp only [size_alloc, size_setB, size_drew]; omega)) _ | refine Ext.trans ?_ (by assumption)))⟩)
                      | (rw [undo_Sn (by unfold Entry.isS; omega) (by omega)]; exact ⟨rfl, VRet.ext hv (by repeat (first | assumption | exact Ext.refl _ | refine Ext.alloc ?_ _ | refine Ext.drew ?_ | refine Ext.setB ?_ (by first | omega | (simp only [size_alloc, size_setB, size_drew]; omega)) _ | refine Ext.trans ?_ (by assumption)))⟩)
                      | (rw [undo_8n (by omega) (by omega)]; exact ⟨rfl, VRet.ext hv (by repeat (first | assumption | exact Ext.refl _ | refine Ext.alloc ?_ _ | refine Ext.drew ?_ | refine Ext.setB ?_ (by first | omega | (simp only [size_alloc, size_setB, size_drew]; omega)) _ | refine Ext.trans ?_ (by assumption)))⟩)
                      | (rw [undo_n (by unfold Entry.isA; omega) (by unfold Entry.isS; omega) (by omega) (by omega) (by omega)]; exact ⟨rfl, VRet.ext hv (by repeat (first | assumption | exact Ext.refl _ | refine Ext.alloc ?_ _ | refine Ext.drew ?_ | refine Ext.setB ?_ (by first | omega | (simp only [size_alloc, size_setB, size_drew]; omega)) _ | refine Ext.trans ?_ (by assumption)))⟩)
                      | (exfalso; omega)
                    · have hb148p := hb148.h; simp only [al_ete, al_dfn, Bool.not_eq_true', Bool.not_eq_false', al_ne, Bool.not_not, al_nn] at hb148p
                      refine WH_guardT rfl rfl hb148.h ?_
                      refine WH_p (PS_move_ptr rfl) rfl ?_
                      refine WH_guardT rfl rfl hb148.h ?_
                      refine WH_p (PS_nilCheck rfl) rfl ?_
                      refine WH_guardT rfl rfl hb148.h ?_
                      refine WH_p (PS_fieldAddr 1 Hvad.runUnderlying173 rfl Hvad.sizeOf21 rfl rfl) rfl ?_
                      refine WH_guardT rfl rfl hb148.h ?_
                      refine WH_load (.int _ _) Hvad.isAgg21 rfl (Hb.h (by repeat (first | assumption | exact Hb.newY _ _ | refine Hb.alloc ?_ | refine Hb.drew ?_ | refine Hb.ext (by assumption) ?_ | exact Hb.setSameL (by first | omega | (simp only [size_alloc, size_setB, size_drew]; omega)) | exact Hb.setSame (by assumption) | refine Hb.set (by first | omega | (simp only [size_alloc, size_setB, size_drew]; omega)) ?_ ))) (Ce.h (by first | assumption | exact ⟨rfl⟩)) ?_
                      refine WH_guardT rfl rfl hb148.h ?_
                      refine WH_p (PS_conv_i64n Hvad.runUnderlying21 Hvad.runUnderlying3 rfl (by omega) (by omega)) rfl ?_
                      refine WH_guardT rfl rfl hb148.h ?_
                      refine WH_p (PS_move_ptr rfl) rfl ?_
                      refine WH_guardT rfl rfl hb148.h ?_
                      refine WH_p (PS_nilCheck rfl) rfl ?_
                      refine WH_guardT rfl rfl hb148.h ?_
                      refine WH_p (PS_fieldAddr 24582 Hvad.runUnderlying79 rfl Hvad.sizeOf76 rfl rfl) rfl ?_
                      refine WH_guardT rfl rfl hb148.h ?_
                      refine WH_load (.slice _ _ _) Hvad.isAgg76 rfl (Hb.h (by repeat (first | assumption | exact Hb.newY _ _ | refine Hb.alloc ?_ | refine Hb.drew ?_ | refine Hb.ext (by assumption) ?_ | exact Hb.setSameL (by first | omega | (simp only [size_alloc, size_setB, size_drew]; omega)) | exact Hb.setSame (by assumption) | refine Hb.set (by first | omega | (simp only [size_alloc, size_setB, size_drew]; omega)) ?_ ))) (Ce.h (by first | assumption | exact ⟨rfl⟩)) ?_
                      refine WH_guardT rfl rfl hb148.h ?_
                      refine WH_p (PS_lenS Hvad.runUnderlying76 rfl) rfl ?_
                      refine WH_guardT rfl rfl hb148.h ?_
                      refine WH_p (PS_geq rfl rfl) rfl ?_
                      refine WH_p (PS_pickF rfl hb148.h rfl) rfl ?_
                      refine WH_nil ?_
                      refine thn_normal ?_
                      refine W_if rfl (fun hb150 => ?_) (fun hb150 => ?_)
                      · have hb150p := hb150.h; simp only [al_ete, al_dfn, Bool.not_eq_true', Bool.not_eq_false', al_ne, Bool.not_not, al_nn] at hb150p
                        refine W_seq ?_
                        refine W_region rfl ?_
                        refine WO_p (PS_assign_bool rfl) ?_
                        refine WO_nil ?_
                        refine thn_normal ?_
                        refine W_ret ?_
                        refine thn_ret ?_
                        refine inBlk_ret ?_
                        refine thn_ret ?_
                        refine bodyQ_ret1 Hvad.results268 rfl (.bool _) rfl ?_
                        first
                        | (rw [undo_0 (by omega) h0 hx]; exact ⟨rfl, _, _, hV, hS⟩)
                        | (rw [undo_1 (by omega) h0 hx]; exact ⟨rfl, _, _, hV, hS⟩)
                        | (rw [undo_2 (by omega) h0 hx]; exact ⟨rfl, _, _, hV, hS⟩)
                        | (rw [undo_4 (by omega) h0 hx]; exact ⟨rfl, _, _, hV, hS⟩)
                        | (rw [undo_9 (by omega) h0 hx]; exact ⟨rfl, _, _, hV, hS⟩)
                        | (rw [undo_10 (by omega) h0 hx]; exact ⟨rfl, _, _, hV, hS⟩)
                        | (rw [undo_3 (by omega) h0 hx]; exact ⟨rfl, _, _, hV, hS⟩)
                        | (rw [undo_5 (by omega) h0 hx]; exact ⟨rfl, _, _, hV, hS⟩)
                        | (rw [undo_8 (by omega) h0 hx]; exact ⟨rfl, _, _, hV, hS⟩)
                        | (rw [undo_6 (by omega)]; exact ⟨rfl, _, _, hV, hS⟩)
                        | (rw [undo_7 (by omega) (by omega)]; exact ⟨rfl, _, _, hV, hS⟩)
                        | (rw [undo_7n (by omega) (by omega)]; exact ⟨rfl, VRet.ext hv (by repeat (first | assumption | exact Ext.refl _ | refine Ext.alloc ?_ _ | refine Ext.drew ?_ | refine Ext.setB ?_ (by first | omega | (simp only [size_alloc, size_setB, size_drew]; omega)) _ | refine Ext.trans ?_ (by assumption)))⟩)
                        | (rw [undo_An (by unfold Entry.isA; omega) (by omega)]; exact ⟨rfl, VRet.ext hv (by repeat (first | assumption | exact Ext.refl _ | refine Ext.alloc ?_ _ | refine Ext.drew ?_ | refine Ext.setB ?_ (by first | omega | (simp only [size_alloc, size_setB, size_drew]; omega)) _ | refine Ext.trans ?_ (by assumption)))⟩)
                        | (rw [undo_Sn (by unfold Entry.isS; omega) (by omega)]; exact ⟨rfl, VRet.ext hv (by repeat (first | assumption | exact Ext.refl _ | refine Ext.alloc ?_ _ | refine Ext.drew ?_ | refine Ext.setB ?_ (by first | omega | (simp only [size_alloc, size_setB, size_drew]; omega)) _ | refine Ext.trans ?_ (by assumption)))⟩)
                        | (rw [undo_8n (by omega) (by omega)]; exact ⟨rfl, VRet.ext hv (by repeat (first | assumption | exact Ext.refl _ | refine Ext.alloc ?_ _ | refine Ext.drew ?_ | refine Ext.setB ?_ (by first | omega | (simp only [size_alloc, size_setB, size_drew]; omega)) _ | refine Ext.trans ?_ (by assumption)))⟩)
                        | (rw [undo_n (by unfold Entry.isA; omega) (by unfold Entry.isS; omega) (by omega) (by omega) (by omega)]; exact ⟨rfl, VRet.ext hv (by repeat (first | assumption | exact Ext.refl _ | refine Ext.alloc ?_ _ | refine Ext.drew ?_ | refine Ext.setB ?_ (by first | omega | (simp only [size_alloc, size_setB, size_drew]; omega)) _ | refine Ext.trans ?_ (by assumption)))⟩)
                        | (exfalso; omega)
                      · have hb150p := hb150.h; simp only [al_ete, al_dfn, Bool.not_eq_true', Bool.not_eq_false', al_ne, Bool.not_not, al_nn] at hb150p
                        have h0 : 0 ≤ e.at_ := by omega
                        obtain ⟨x, hx⟩ : ∃ x, v.temps[e.at_.toNat]? = some x := ⟨_, List.getElem?_eq_getElem (by omega)⟩
                        clear hdt
                        obtain ⟨b, cap, r, hab, hcap, hr, hrs, hrow, hdt, hbd, hil, hty, f0, f1, f2⟩ := hv.openT hx
                        refine W_skip ?_
                        refine thn_normal ?_
                        refine W_drawE [false, false, false, false, false, false, false, false, false, false, false, false, false, false, false] hmix (by kernel_rfl) rfl ?_
                        refine WH_p (PS_move_ptr rfl) rfl ?_
                        refine WH_p (PS_nilCheck rfl) rfl ?_
                        refine WH_p (PS_fieldAddr 24582 Hvad.runUnderlying79 rfl Hvad.sizeOf76 rfl rfl) rfl ?_
                        refine WH_load (.slice _ _ _) Hvad.isAgg76 rfl (Hb.h (by repeat (first | assumption | exact Hb.newY _ _ | refine Hb.alloc ?_ | refine Hb.drew ?_ | refine Hb.ext (by assumption) ?_ | exact Hb.setSameL (by first | omega | (simp only [size_alloc, size_setB, size_drew]; omega)) | exact Hb.setSame (by assumption) | refine Hb.set (by first | omega | (simp only [size_alloc, size_setB, size_drew]; omega)) ?_ ))) (Ce.h (by first | assumption | exact ⟨rfl⟩)) ?_
                        refine WH_p (PS_move_ptr rfl) rfl ?_
                        refine WH_p (PS_nilCheck rfl) rfl ?_
                        refine WH_p (PS_fieldAddr 1 Hvad.runUnderlying173 rfl Hvad.sizeOf21 rfl rfl) rfl ?_
                        refine WH_load (.int _ _) Hvad.isAgg21 rfl (Hb.h (by repeat (first | assumption | exact Hb.newY _ _ | refine Hb.alloc ?_ | refine Hb.drew ?_ | refine Hb.ext (by assumption) ?_ | exact Hb.setSameL (by first | omega | (simp only [size_alloc, size_setB, size_drew]; omega)) | exact Hb.setSame (by assumption) | refine Hb.set (by first | omega | (simp only [size_alloc, size_setB, size_drew]; omega)) ?_ ))) (Ce.h (by first | assumption | exact ⟨rfl⟩)) ?_
                        refine WH_p (PS_move_ptr rfl) rfl ?_
                        refine WH_p (PS_nilCheck rfl) rfl ?_
                        refine WH_p (PS_fieldAddr 3 Hvad.runUnderlying173 rfl Hvad.sizeOf59 rfl rfl) rfl ?_
                        refine WH_loadA _ Hvad.isAgg59 Hvad.sizeOf59 rfl (Hb.h (by repeat (first | assumption | exact Hb.newY _ _ | refine Hb.alloc ?_ | refine Hb.drew ?_ | refine Hb.ext (by assumption) ?_ | exact Hb.setSameL (by first | omega | (simp only [size_alloc, size_setB, size_drew]; omega)) | exact Hb.setSame (by assumption) | refine Hb.set (by first | omega | (simp only [size_alloc, size_setB, size_drew]; omega)) ?_ ))) (by first | omega | assumption | rfl | decide | (simp only [size_ic, Value.cells]; omega) | simp) (Xt.h (by first | assumption | exact Xt.whole rfl rfl | exact Xt.whole rfl (by simp only [size_ic, Value.cells]; omega) | exact ⟨rfl⟩)) ?_
                        refine WH_p (PS_indexS Hvad.runUnderlying76 Hvad.sizeOf305 rfl rfl (by omega) (by omega)) rfl ?_
                        refine WH_p (PS_fieldAddr 5 Hvad.runUnderlying305 rfl Hvad.sizeOf59 rfl rfl) rfl ?_
                        have hv2 := hv.ext (Ext.drew (Ext.drew (Ext.refl _)))
                        have hr2 := hr.drew.drew
                        refine WH_store Hvad.sizeOf59 rfl (v := .agg (ic .u64 e.w)) rfl hr2.h (by first | omega | assumption | rfl | decide | (simp only [size_ic, Value.cells]; omega) | simp) (by omega) (by first | exact oneCell_ic | assumption) (fun h => by cases h) ?_
                        obtain ⟨hV, hS⟩ := hv2.wT_val hx hab hcap hr2 hrs hrow e.w htj.2.2.2
                        replace hS := VStep.pre (Ext.drew (Ext.drew (Ext.refl _))) hS
                        refine WH_nil ?_
                        refine inBlk_normal ?_
                        refine thn_normal ?_
                        refine W_seq ?_
                        refine W_region rfl ?_
                        refine WO_p (PS_assign_bool rfl) ?_
                        refine WO_nil ?_
                        refine thn_normal ?_
                        refine W_ret ?_
                        refine bodyQ_ret1 Hvad.results268 rfl (.bool _) rfl ?_
                        first
                        | (rw [undo_0 (by omega) h0 hx]; exact ⟨rfl, _, _, hV, hS⟩)
                        | (rw [undo_1 (by omega) h0 hx]; exact ⟨rfl, _, _, hV, hS⟩)
                        | (rw [undo_2 (by omega) h0 hx]; exact ⟨rfl, _, _, hV, hS⟩)
                        | (rw [undo_4 (by omega) h0 hx]; exact ⟨rfl, _, _, hV, hS⟩)
                        | (rw [undo_9 (by omega) h0 hx]; exact ⟨rfl, _, _, hV, hS⟩)
                        | (rw [undo_10 (by omega) h0 hx]; exact ⟨rfl, _, _, hV, hS⟩)
                        | (rw [undo_3 (by omega) h0 hx]; exact ⟨rfl, _, _, hV, hS⟩)
                        | (rw [undo_5 (by omega) h0 hx]; exact ⟨rfl, _, _, hV, hS⟩)
                        | (rw [undo_8 (by omega) h0 hx]; exact ⟨rfl, _, _, hV, hS⟩)
                        | (rw [undo_6 (by omega)]; exact ⟨rfl, _, _, hV, hS⟩)
                        | (rw [undo_7 (by omega) (by omega)]; exact ⟨rfl, _, _, hV, hS⟩)
                        | (rw [undo_7n (by omega) (by omega)]; exact ⟨rfl, VRet.ext hv (by repeat (first | assumption | exact Ext.refl _ | refine Ext.alloc ?_ _ | refine Ext.drew ?_ | refine Ext.setB ?_ (by first | omega | (simp only [size_alloc, size_setB, size_drew]; omega)) _ | refine Ext.trans ?_ (by assumption)))⟩)
                        | (rw [undo_An (by unfold Entry.isA; omega) (by omega)]; exact ⟨rfl, VRet.ext hv (by repeat (first | assumption | exact Ext.refl _ | refine Ext.alloc ?_ _ | refine Ext.drew ?_ | refine Ext.setB ?_ (by first | omega | (simp only [size_alloc, size_setB, size_drew]; omega)) _ | refine Ext.trans ?_ (by assumption)))⟩)
                        | (rw [undo_Sn (by unfold Entry.isS; omega) (by omega)]; exact ⟨rfl, VRet.ext hv (by repeat (first | assumption | exact Ext.refl _ | refine Ext.alloc ?_ _ | refine Ext.drew ?_ | refine Ext.setB ?_ (by first | omega | (simp only [size_alloc, size_setB, size_drew]; omega)) _ | refine Ext.trans ?_ (by assumption)))⟩)
                        | (rw [undo_8n (by omega) (by omega)]; exact ⟨rfl, VRet.ext hv (by repeat (first | assumption | exact Ext.refl _ | refine Ext.alloc ?_ _ | refine Ext.drew ?_ | refine Ext.setB ?_ (by first | omega | (simp only [size_alloc, size_setB, size_drew]; omega)) _ | refine Ext.trans ?_ (by assumption)))⟩)
                        | (rw [undo_n (by unfold Entry.isA; omega) (by unfold Entry.isS; omega) (by omega) (by omega) (by omega)]; exact ⟨rfl, VRet.ext hv (by repeat (first | assumption | exact Ext.refl _ | refine Ext.alloc ?_ _ | refine Ext.drew ?_ | refine Ext.setB ?_ (by first | omega | (simp only [size_alloc, size_setB, size_drew]; omega)) _ | refine Ext.trans ?_ (by assumption)))⟩)
                        | (exfalso; omega)
                  · have hb146p := hb146.h; simp only [al_ete, al_dfn, Bool.not_eq_true', Bool.not_eq_false', al_ne, Bool.not_not, al_nn] at hb146p
                    refine W_seq ?_
                    refine W_region rfl ?_
                    refine WO_p (PS_eql rfl rfl) ?_
                    refine WO_p (PS_assign_bool rfl) ?_
                    refine WO_nil ?_
                    refine thn_normal ?_
                    refine W_if rfl (fun hb152 => ?_) (fun hb152 => ?_)
                    · have hb152p := hb152.h; simp only [al_ete, al_dfn, Bool.not_eq_true', Bool.not_eq_false', al_ne, Bool.not_not, al_nn] at hb152p
                      refine W_region rfl ?_
                      refine WO_p (PS_move_ptr rfl) ?_
                      refine WO_p (PS_move_ptr rfl) ?_
                      refine WO_p (PS_nilCheck rfl) ?_
                      refine WO_p (PS_fieldAddr 2 Hvad.runUnderlying173 rfl Hvad.sizeOf26 rfl rfl) ?_
                      refine WO_load (.int _ _) Hvad.isAgg26 rfl (Hb.h (by repeat (first | assumption | exact Hb.newY _ _ | refine Hb.alloc ?_ | refine Hb.drew ?_ | refine Hb.ext (by assumption) ?_ | exact Hb.setSameL (by first | omega | (simp only [size_alloc, size_setB, size_drew]; omega)) | exact Hb.setSame (by assumption) | refine Hb.set (by first | omega | (simp only [size_alloc, size_setB, size_drew]; omega)) ?_ ))) (Ce.h (by first | assumption | exact ⟨rfl⟩)) ?_
                      refine WO_p (PS_nilCheck rfl) ?_
                      refine WO_p (PS_fieldAddr 24580 Hvad.runUnderlying79 rfl Hvad.sizeOf26 rfl rfl) ?_
                      refine WO_store1 Hvad.sizeOf26 rfl (v := .int _ _) rfl hv.blk.h rfl (by rw [hv.rep.size]; decide) rfl ?_
                      obtain ⟨hV, hS⟩ := hv.put_ref e.n htj.2.2.1
                      refine WO_nil ?_
                      refine inBlk_normal ?_
                      refine thn_normal ?_
                      refine W_seq ?_
                      refine W_region rfl ?_
                      refine WO_p (PS_assign_bool rfl) ?_
                      refine WO_nil ?_
                      refine thn_normal ?_
                      refine W_ret ?_
                      refine bodyQ_ret1 Hvad.results268 rfl (.bool _) rfl ?_
                      first
                      | (rw [undo_0 (by omega) h0 hx]; exact ⟨rfl, _, _, hV, hS⟩)
                      | (rw [undo_1 (by omega) h0 hx]; exact ⟨rfl, _, _, hV, hS⟩)
                      | (rw [undo_2 (by omega) h0 hx]; exact ⟨rfl, _, _, hV, hS⟩)
                      | (rw [undo_4 (by omega) h0 hx]; exact ⟨rfl, _, _, hV, hS⟩)
                      | (rw [undo_9 (by omega) h0 hx]; exact ⟨rfl, _, _, hV, hS⟩)
                      | (rw [undo_10 (by omega) h0 hx]; exact ⟨rfl, _, _, hV, hS⟩)
                      | (rw [undo_3 (by omega) h0 hx]; exact ⟨rfl, _, _, hV, hS⟩)
                      | (rw [undo_5 (by omega) h0 hx]; exact ⟨rfl, _, _, hV, hS⟩)
                      | (rw [undo_8 (by omega) h0 hx]; exact ⟨rfl, _, _, hV, hS⟩)
                      | (rw [undo_6 (by omega)]; exact ⟨rfl, _, _, hV, hS⟩)
                      | (rw [undo_7 (by omega) (by omega)]; exact ⟨rfl, _, _, hV, hS⟩)
                      | (rw [undo_7n (by omega) (by omega)]; exact ⟨rfl, VRet.ext hv (by repeat (first | assumption | exact Ext.refl _ | refine Ext.alloc ?_ _ | refine Ext.drew ?_ | refine Ext.setB ?_ (by first | omega | (simp only [size_alloc, size_setB, size_drew]; omega)) _ | refine Ext.trans ?_ (by assumption)))⟩)
                      | (rw [undo_An (by unfold Entry.isA; omega) (by omega)]; exact ⟨rfl, VRet.ext hv (by repeat (first | assumption | exact Ext.refl _ | refine Ext.alloc ?_ _ | refine Ext.drew ?_ | refine Ext.setB ?_ (by first | omega | (simp only [size_alloc, size_setB, size_drew]; omega)) _ | refine Ext.trans ?_ (by assumption)))⟩)
                      | (rw [undo_Sn (by unfold Entry.isS; omega) (by omega)]; exact ⟨rfl, VRet.ext hv (by repeat (first | assumption | exact Ext.refl _ | refine Ext.alloc ?_ _ | refine Ext.drew ?_ | refine Ext.setB ?_ (by first | omega | (simp only [size_alloc, size_setB, size_drew]; omega)) _ | refine Ext.trans ?_ (by assumption)))⟩)
                      | (rw [undo_8n (by omega) (by omega)]; exact ⟨rfl, VRet.ext hv (by repeat (first | assumption | exact Ext.refl _ | refine Ext.alloc ?_ _ | refine Ext.drew ?_ | refine Ext.setB ?_ (by first | omega | (simp only [size_alloc, size_setB, size_drew]; omega)) _ | refine Ext.trans ?_ (by assumption)))⟩)
                      | (rw [undo_n (by unfold Entry.isA; omega) (by unfold Entry.isS; omega) (by omega) (by omega) (by omega)]; exact ⟨rfl, VRet.ext hv (by repeat (first | assumption | exact Ext.refl _ | refine Ext.alloc ?_ _ | refine Ext.drew ?_ | refine Ext.setB ?_ (by first | omega | (simp only [size_alloc, size_setB, size_drew]; omega)) _ | refine Ext.trans ?_ (by assumption)))⟩)
                      | (exfalso; omega)
                    · have hb152p := hb152.h; simp only [al_ete, al_dfn, Bool.not_eq_true', Bool.not_eq_false', al_ne, Bool.not_not, al_nn] at hb152p
                      refine W_seq ?_
                      refine W_region rfl ?_
                      refine WO_p (PS_eql rfl rfl) ?_
                      refine WO_p (PS_assign_bool rfl) ?_
                      refine WO_nil ?_
                      refine thn_normal ?_
                      refine W_if rfl (fun hb154 => ?_) (fun hb154 => ?_)
                      · have hb154p := hb154.h; simp only [al_ete, al_dfn, Bool.not_eq_true', Bool.not_eq_false', al_ne, Bool.not_not, al_nn] at hb154p
                        refine W_seq ?_
                        refine W_seq ?_
                        refine W_region rfl ?_
                        refine WO_p (PS_move_ptr rfl) ?_
                        refine WO_p (PS_nilCheck rfl) ?_
                        refine WO_p (PS_fieldAddr 24581 Hvad.runUnderlying79 rfl Hvad.sizeOf75 rfl rfl) ?_
                        refine WO_load (.slice _ _ _) Hvad.isAgg75 rfl (Hb.h (by repeat (first | assumption | exact Hb.newY _ _ | refine Hb.alloc ?_ | refine Hb.drew ?_ | refine Hb.ext (by assumption) ?_ | exact Hb.setSameL (by first | omega | (simp only [size_alloc, size_setB, size_drew]; omega)) | exact Hb.setSame (by assumption) | refine Hb.set (by first | omega | (simp only [size_alloc, size_setB, size_drew]; omega)) ?_ ))) (Ce.h (by first | assumption | exact ⟨rfl⟩)) ?_
                        refine WO_p (PS_lenS Hvad.runUnderlying75 rfl) ?_
                        refine WO_p (PS_eql rfl rfl) ?_
                        refine WO_nil ?_
                        refine thn_normal ?_
                        refine W_if rfl (fun hb156 => ?_) (fun hb156 => ?_)
                        · have hb156p := hb156.h; simp only [al_ete, al_dfn, Bool.not_eq_true', Bool.not_eq_false', al_ne, Bool.not_not, al_nn] at hb156p
                          refine W_seq ?_
                          refine W_region rfl ?_
                          refine WO_p (PS_assign_bool rfl) ?_
                          refine WO_nil ?_
                          refine thn_normal ?_
                          refine W_ret ?_
                          refine thn_ret ?_
                          refine inBlk_ret ?_
                          refine thn_ret ?_
                          refine bodyQ_ret1 Hvad.results268 rfl (.bool _) rfl ?_
                          first
                          | (rw [undo_0 (by omega) h0 hx]; exact ⟨rfl, _, _, hV, hS⟩)
                          | (rw [undo_1 (by omega) h0 hx]; exact ⟨rfl, _, _, hV, hS⟩)
                          | (rw [undo_2 (by omega) h0 hx]; exact ⟨rfl, _, _, hV, hS⟩)
                          | (rw [undo_4 (by omega) h0 hx]; exact ⟨rfl, _, _, hV, hS⟩)
                          | (rw [undo_9 (by omega) h0 hx]; exact ⟨rfl, _, _, hV, hS⟩)
                          | (rw [undo_10 (by omega) h0 hx]; exact ⟨rfl, _, _, hV, hS⟩)
                          | (rw [undo_3 (by omega) h0 hx]; exact ⟨rfl, _, _, hV, hS⟩)
                          | (rw [undo_5 (by omega) h0 hx]; exact ⟨rfl, _, _, hV, hS⟩)
                          | (rw [undo_8 (by omega) h0 hx]; exact ⟨rfl, _, _, hV, hS⟩)
                          | (rw [undo_6 (by omega)]; exact ⟨rfl, _, _, hV, hS⟩)
                          | (rw [undo_7 (by omega) (by omega)]; exact ⟨rfl, _, _, hV, hS⟩)
                          | (rw [undo_7n (by omega) (by omega)]; exact ⟨rfl, VRet.ext hv (by repeat (first | assumption | exact Ext.refl _ | refine Ext.alloc ?_ _ | refine Ext.drew ?_ | refine Ext.setB ?_ (by first | omega | (simp only [size_alloc, size_setB, size_drew]; omega)) _ | refine Ext.trans ?_ (by assumption)))⟩)
                          | (rw [undo_An (by unfold Entry.isA; omega) (by omega)]; exact ⟨rfl, VRet.ext hv (by repeat (first | assumption | exact Ext.refl _ | refine Ext.alloc ?_ _ | refine Ext.drew ?_ | refine Ext.setB ?_ (by first | omega | (simp only [size_alloc, size_setB, size_drew]; omega)) _ | refine Ext.trans ?_ (by assumption)))⟩)
                          | (rw [undo_Sn (by unfold Entry.isS; omega) (by omega)]; exact ⟨rfl, VRet.ext hv (by repeat (first | assumption | exact Ext.refl _ | refine Ext.alloc ?_ _ | refine Ext.drew ?_ | refine Ext.setB ?_ (by first | omega | (simp only [size_alloc, size_setB, size_drew]; omega)) _ | refine Ext.trans ?_ (by assumption)))⟩)
                          | (rw [undo_8n (by omega) (by omega)]; exact ⟨rfl, VRet.ext hv (by repeat (first | assumption | exact Ext.refl _ | refine Ext.alloc ?_ _ | refine Ext.drew ?_ | refine Ext.setB ?_ (by first | omega | (simp only [size_alloc, size_setB, size_drew]; omega)) _ | refine Ext.trans ?_ (by assumption)))⟩)
                          | (rw [undo_n (by unfold Entry.isA; omega) (by unfold Entry.isS; omega) (by omega) (by omega) (by omega)]; exact ⟨rfl, VRet.ext hv (by repeat (first | assumption | exact Ext.refl _ | refine Ext.alloc ?_ _ | refine Ext.drew ?_ | refine Ext.setB ?_ (by first | omega | (simp only [size_alloc, size_setB, size_drew]; omega)) _ | refine Ext.trans ?_ (by assumption)))⟩)
                          | (exfalso; omega)
                        · have hb156p := hb156.h; simp only [al_ete, al_dfn, Bool.not_eq_true', Bool.not_eq_false', al_ne, Bool.not_not, al_nn] at hb156p
                          obtain ⟨y, hy⟩ : ∃ y, v.logs[0]? = some y := ⟨_, List.getElem?_eq_getElem (by omega)⟩
                          obtain ⟨bl, cl, rl, hBl, hcl, hrl, hrsl, hrowl⟩ := hv.rows.logs.some hy
                          clear hdl
                          have hdl : Ce c 27016 (.slice (some ⟨bl, 0, none⟩) v.logs.length cl) := by have := hv.rep.logs; rw [hBl] at this; exact this
                          refine W_skip ?_
                          refine thn_normal ?_
                          refine W_drawE [false, false, false, false, false, false, false, false, false, false, false, false, false, false, false] hmix (by kernel_rfl) rfl ?_
                          refine WH_p (PS_move_ptr rfl) rfl ?_
                          refine WH_p (PS_move_ptr rfl) rfl ?_
                          refine WH_p (PS_nilCheck rfl) rfl ?_
                          refine WH_p (PS_fieldAddr 24581 Hvad.runUnderlying79 rfl Hvad.sizeOf75 rfl rfl) rfl ?_
                          refine WH_load (.slice _ _ _) Hvad.isAgg75 rfl (Hb.h (by repeat (first | assumption | exact Hb.newY _ _ | refine Hb.alloc ?_ | refine Hb.drew ?_ | refine Hb.ext (by assumption) ?_ | exact Hb.setSameL (by first | omega | (simp only [size_alloc, size_setB, size_drew]; omega)) | exact Hb.setSame (by assumption) | refine Hb.set (by first | omega | (simp only [size_alloc, size_setB, size_drew]; omega)) ?_ ))) (Ce.h (by first | assumption | exact ⟨rfl⟩)) ?_
                          refine WH_p (PS_move_ptr rfl) rfl ?_
                          refine WH_p (PS_nilCheck rfl) rfl ?_
                          refine WH_p (PS_fieldAddr 24581 Hvad.runUnderlying79 rfl Hvad.sizeOf75 rfl rfl) rfl ?_
                          refine WH_load (.slice _ _ _) Hvad.isAgg75 rfl (Hb.h (by repeat (first | assumption | exact Hb.newY _ _ | refine Hb.alloc ?_ | refine Hb.drew ?_ | refine Hb.ext (by assumption) ?_ | exact Hb.setSameL (by first | omega | (simp only [size_alloc, size_setB, size_drew]; omega)) | exact Hb.setSame (by assumption) | refine Hb.set (by first | omega | (simp only [size_alloc, size_setB, size_drew]; omega)) ?_ ))) (Ce.h (by first | assumption | exact ⟨rfl⟩)) ?_
                          refine WH_p (PS_lenS Hvad.runUnderlying75 rfl) rfl ?_
                          refine WH_p (PS_sub_i64n rfl rfl (by omega) (by omega)) rfl ?_
                          refine WH_p (PS_slS_h Hvad.runUnderlying75 Hvad.sizeOf307 rfl rfl (by omega) (by omega) (by omega)) rfl ?_
                          refine WH_p (PS_nilCheck rfl) rfl ?_
                          refine WH_p (PS_fieldAddr 24581 Hvad.runUnderlying79 rfl Hvad.sizeOf75 rfl rfl) rfl ?_
                          have hv2 := hv.ext (Ext.drew (Ext.refl _))
                          have hrow2 := hv2.rows.logs.take (v.logs.length - 1)
                          have hlt2 : (v.logs.take (v.logs.length - 1)).length = v.logs.length - 1 := by rw [List.length_take]; omega
                          have h := VS.row_logs hv2 hrow2 (KeepO.refl _ _) (fun b hb => Or.inl hb) (fun x hx => hv2.ty.logs x (List.mem_of_mem_take hx)) (by rw [hlt2]; omega)
                          rw [hlt2, show slv B.l (v.logs.length - 1) = .slice (some ⟨bl, 0, none⟩) (v.logs.length - 1) cl by rw [hBl]; rfl] at h
                          refine WH_store1 Hvad.sizeOf75 rfl (v := .slice (some ⟨bl, 0, none⟩) (v.logs.length - 1) cl) (congrArg (fun n => Value.slice (some ⟨bl, 0, none⟩) n cl) (by omega)) hv2.blk.h rfl (by rw [hv.rep.size]; decide) rfl (fun h => by cases h) ?_
                          obtain ⟨hV, hS⟩ := h
                          replace hS := VStep.pre (Ext.drew (Ext.refl _)) hS
                          refine WH_nil ?_
                          refine inBlk_normal ?_
                          refine thn_normal ?_
                          refine W_seq ?_
                          refine W_region rfl ?_
                          refine WO_p (PS_assign_bool rfl) ?_
                          refine WO_nil ?_
                          refine thn_normal ?_
                          refine W_ret ?_
                          refine bodyQ_ret1 Hvad.results268 rfl (.bool _) rfl ?_
                          first
                          | (rw [undo_0 (by omega) h0 hx]; exact ⟨rfl, _, _, hV, hS⟩)
                          | (rw [undo_1 (by omega) h0 hx]; exact ⟨rfl, _, _, hV, hS⟩)
                          | (rw [undo_2 (by omega) h0 hx]; exact ⟨rfl, _, _, hV, hS⟩)
                          | (rw [undo_4 (by omega) h0 hx]; exact ⟨rfl, _, _, hV, hS⟩)
                          | (rw [undo_9 (by omega) h0 hx]; exact ⟨rfl, _, _, hV, hS⟩)
                          | (rw [undo_10 (by omega) h0 hx]; exact ⟨rfl, _, _, hV, hS⟩)
                          | (rw [undo_3 (by omega) h0 hx]; exact ⟨rfl, _, _, hV, hS⟩)
                          | (rw [undo_5 (by omega) h0 hx]; exact ⟨rfl, _, _, hV, hS⟩)
                          | (rw [undo_8 (by omega) h0 hx]; exact ⟨rfl, _, _, hV, hS⟩)
                          | (rw [undo_6 (by omega)]; exact ⟨rfl, _, _, hV, hS⟩)
                          | (rw [undo_7 (by omega) (by omega)]; exact ⟨rfl, _, _, hV, hS⟩)
                          | (rw [undo_7n (by omega) (by omega)]; exact ⟨rfl, VRet.ext hv (by repeat (first | assumption | exact Ext.refl _ | refine Ext.alloc ?_ _ | refine Ext.drew ?_ | refine Ext.setB ?_ (by first | omega | (simp only [size_alloc, size_setB, size_drew]; omega)) _ | refine Ext.trans ?_ (by assumption)))⟩)
                          | (rw [undo_An (by unfold Entry.isA; omega) (by omega)]; exact ⟨rfl, VRet.ext hv (by repeat (first | assumption | exact Ext.refl _ | refine Ext.alloc ?_ _ | refine Ext.drew ?_ | refine Ext.setB ?_ (by first | omega | (simp only [size_alloc, size_setB, size_drew]; omega)) _ | refine Ext.trans ?_ (by assumption)))⟩)
                          | (rw [undo_Sn (by unfold Entry.isS; omega) (by omega)]; exact ⟨rfl, VRet.ext hv (by repeat (first | assumption | exact Ext.refl _ | refine Ext.alloc ?_ _ | refine Ext.drew ?_ | refine Ext.setB ?_ (by first | omega | (simp only [size_alloc, size_setB, size_drew]; omega)) _ | refine Ext.trans ?_ (by assumption)))⟩)
                          | (rw [undo_8n (by omega) (by omega)]; exact ⟨rfl, VRet.ext hv (by repeat (first | assumption | exact Ext.refl _ | refine Ext.alloc ?_ _ | refine Ext.drew ?_ | refine Ext.setB ?_ (by first | omega | (simp only [size_alloc, size_setB, size_drew]; omega)) _ | refine Ext.trans ?_ (by assumption)))⟩)
                          | (rw [undo_n (by unfold Entry.isA; omega) (by unfold Entry.isS; omega) (by omega) (by omega) (by omega)]; exact ⟨rfl, VRet.ext hv (by repeat (first | assumption | exact Ext.refl _ | refine Ext.alloc ?_ _ | refine Ext.drew ?_ | refine Ext.setB ?_ (by first | omega | (simp only [size_alloc, size_setB, size_drew]; omega)) _ | refine Ext.trans ?_ (by assumption)))⟩)
                          | (exfalso; omega)
                      · have hb154p := hb154.h; simp only [al_ete, al_dfn, Bool.not_eq_true', Bool.not_eq_false', al_ne, Bool.not_not, al_nn] at hb154p
                        refine W_seq ?_
                        refine W_region rfl ?_
                        refine WO_p (PS_assign_bool rfl) ?_
                        refine WO_nil ?_
                        refine thn_normal ?_
                        refine W_ret ?_
                        refine inBlk_ret ?_
                        refine thn_ret ?_
                        refine bodyQ_ret1 Hvad.results268 rfl (.bool _) rfl ?_
                        first
                        | (rw [undo_0 (by omega) h0 hx]; exact ⟨rfl, _, _, hV, hS⟩)
                        | (rw [undo_1 (by omega) h0 hx]; exact ⟨rfl, _, _, hV, hS⟩)
                        | (rw [undo_2 (by omega) h0 hx]; exact ⟨rfl, _, _, hV, hS⟩)
                        | (rw [undo_4 (by omega) h0 hx]; exact ⟨rfl, _, _, hV, hS⟩)
                        | (rw [undo_9 (by omega) h0 hx]; exact ⟨rfl, _, _, hV, hS⟩)
                        | (rw [undo_10 (by omega) h0 hx]; exact ⟨rfl, _, _, hV, hS⟩)
                        | (rw [undo_3 (by omega) h0 hx]; exact ⟨rfl, _, _, hV, hS⟩)
                        | (rw [undo_5 (by omega) h0 hx]; exact ⟨rfl, _, _, hV, hS⟩)
                        | (rw [undo_8 (by omega) h0 hx]; exact ⟨rfl, _, _, hV, hS⟩)
                        | (rw [undo_6 (by omega)]; exact ⟨rfl, _, _, hV, hS⟩)
                        | (rw [undo_7 (by omega) (by omega)]; exact ⟨rfl, _, _, hV, hS⟩)
                        | (rw [undo_7n (by omega) (by omega)]; exact ⟨rfl, VRet.ext hv (by repeat (first | assumption | exact Ext.refl _ | refine Ext.alloc ?_ _ | refine Ext.drew ?_ | refine Ext.setB ?_ (by first | omega | (simp only [size_alloc, size_setB, size_drew]; omega)) _ | refine Ext.trans ?_ (by assumption)))⟩)
                        | (rw [undo_An (by unfold Entry.isA; omega) (by omega)]; exact ⟨rfl, VRet.ext hv (by repeat (first | assumption | exact Ext.refl _ | refine Ext.alloc ?_ _ | refine Ext.drew ?_ | refine Ext.setB ?_ (by first | omega | (simp only [size_alloc, size_setB, size_drew]; omega)) _ | refine Ext.trans ?_ (by assumption)))⟩)
                        | (rw [undo_Sn (by unfold Entry.isS; omega) (by omega)]; exact ⟨rfl, VRet.ext hv (by repeat (first | assumption | exact Ext.refl _ | refine Ext.alloc ?_ _ | refine Ext.drew ?_ | refine Ext.setB ?_ (by first | omega | (simp only [size_alloc, size_setB, size_drew]; omega)) _ | refine Ext.trans ?_ (by assumption)))⟩)
                        | (rw [undo_8n (by omega) (by omega)]; exact ⟨rfl, VRet.ext hv (by repeat (first | assumption | exact Ext.refl _ | refine Ext.alloc ?_ _ | refine Ext.drew ?_ | refine Ext.setB ?_ (by first | omega | (simp only [size_alloc, size_setB, size_drew]; omega)) _ | refine Ext.trans ?_ (by assumption)))⟩)
                        | (rw [undo_n (by unfold Entry.isA; omega) (by unfold Entry.isS; omega) (by omega) (by omega) (by omega)]; exact ⟨rfl, VRet.ext hv (by repeat (first | assumption | exact Ext.refl _ | refine Ext.alloc ?_ _ | refine Ext.drew ?_ | refine Ext.setB ?_ (by first | omega | (simp only [size_alloc, size_setB, size_drew]; omega)) _ | refine Ext.trans ?_ (by assumption)))⟩)
                        | (exfalso; omega)

end Go.Proofs.YgvadwGreat
