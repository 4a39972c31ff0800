import Derived.Test.YgvadwGreatTe
namespace Go.Proofs.YgvadwGreat
set_option linter.unusedSimpArgs false
set_option linter.unusedVariables false
theorem gasTo_mono {l : List Fm} (h : ∀ i, 0 ≤ gasOf l i) : ∀ i n, i ≤ n → gasTo l i ≤ gasTo l n := by
  intro i n hi
  induction n with
  | zero => rw [show i = 0 by omega]; exact Int.le_refl _
  | succ n ih =>
    rcases Nat.lt_or_eq_of_le hi with h1 | h1
    · have := ih (by omega); have := h n; simp only [gasTo]; omega
    · rw [h1]; exact Int.le_refl _
theorem gasOf_nn {m : Mc} (h : MTy m) (i : Nat) : 0 ≤ gasOf m.frames i := by
  unfold gasOf
  cases hf : m.frames[i]? with
  | none => exact Int.le_refl _
  | some f => exact (h.frames.2 f (List.mem_of_getElem? hf)).gas.1

set_option maxRecDepth 10000 in
set_option maxHeartbeats 4000000 in
theorem phaseOK_spec (C : Nat) (c : Array Value) (v : V) (B : VB) (m : Mc) (n : Nat) (S : Int) (w : World) (hM : MS w C c v B m) (hk : Ck v m n S) : Ret Hvad.prog 135 #[.pointer (some ⟨C, 0, none⟩)] w fun u w' => u = .bool true ∧ Ext w w' := by
  have hblk := hM.vs.blk
  have hCl := hblk.lt
  have hcs := hM.sz
  have hc_s := hM.rep.s
  have hc_top := hM.rep.top
  rw [hk.top] at hc_top
  have hc_phase := hM.rep.phase
  have hn7 := hk.n7
  have hph := hk.ph
  have hpt := hM.ty.phase
  have hc_status := hM.rep.status
  have hc_app := hM.rep.applied
  have hc_mtop := hM.rep.mtop
  rw [hk.mtY] at hc_mtop
  have hst := hk.st
  have hap := hk.ap
  have hb1 : decide (0 ≤ (n : Int) - 1) = decide (m.phase = 1) := by rw [al_dd]; omega
  refine Ret_of_W Hvad.func135 rfl rfl ?_
  refine W_seq ?_
  refine W_region rfl ?_
  refine WO_p (PS_assign_bool rfl) ?_
  refine WO_nil ?_
  refine thn_normal ?_
  refine W_seq ?_
  refine W_seq ?_
  refine W_region rfl ?_
  refine WO_p (PS_move_ptr rfl) ?_
  refine WO_p (PS_nilCheck rfl) ?_
  refine WO_p (PS_fieldAddr 2404 Hvad.runUnderlying69 rfl Hvad.sizeOf5 rfl rfl) ?_
  refine WO_load (.int _ _) Hvad.isAgg5 rfl (Hb.h (by repeat (first | assumption | exact Hb.newY _ _ | refine Hb.alloc ?_ | refine Hb.drew ?_ | refine Hb.ext (by assumption) ?_ | exact Hb.setSameL (by first | omega | (simp only [size_alloc, size_setB, size_drew]; omega)) | exact Hb.setSame (by assumption) | refine Hb.set (by first | omega | (simp only [size_alloc, size_setB, size_drew]; omega)) ?_ ))) (Ce.h (by first | assumption | exact ⟨rfl⟩)) ?_
  refine WO_p (PS_gtr rfl rfl) ?_
  refine WO_p (PS_move_bool rfl) ?_
  refine WO_if (t := 8) rfl (fun hb2 => ?_) (fun hb2 => ?_)
  · have hb2p := hb2.h; try simp only [al_ete, al_dfn, Bool.not_eq_true', Bool.not_eq_false', al_ne, Bool.not_not, al_nn] at hb2p
    (exfalso; omega) --END
  · have hb2p := hb2.h; try simp only [al_ete, al_dfn, Bool.not_eq_true', Bool.not_eq_false', al_ne, Bool.not_not, al_nn] at hb2p
    refine WO_guardT rfl rfl hb2.h ?_
    refine WO_p (PS_move_ptr rfl) ?_
    refine WO_guardT rfl rfl hb2.h ?_
    refine WO_p (PS_nilCheck rfl) ?_
    refine WO_guardT rfl rfl hb2.h ?_
    refine WO_p (PS_fieldAddr 2406 Hvad.runUnderlying69 rfl Hvad.sizeOf5 rfl rfl) ?_
    refine WO_guardT rfl rfl hb2.h ?_
    refine WO_load (.int _ _) Hvad.isAgg5 rfl (Hb.h (by repeat (first | assumption | exact Hb.newY _ _ | refine Hb.alloc ?_ | refine Hb.drew ?_ | refine Hb.ext (by assumption) ?_ | exact Hb.setSameL (by first | omega | (simp only [size_alloc, size_setB, size_drew]; omega)) | exact Hb.setSame (by assumption) | refine Hb.set (by first | omega | (simp only [size_alloc, size_setB, size_drew]; omega)) ?_ ))) (Ce.h (by first | assumption | exact ⟨rfl⟩)) ?_
    refine WO_guardT rfl rfl hb2.h ?_
    refine WO_p (PS_gtr rfl rfl) ?_
    refine WO_p (PS_pickF rfl hb2.h rfl) ?_
    refine WO_nil ?_
    refine thn_normal ?_
    refine W_if rfl (fun hb4 => ?_) (fun hb4 => ?_)
    · have hb4p := hb4.h; try simp only [al_ete, al_dfn, Bool.not_eq_true', Bool.not_eq_false', al_ne, Bool.not_not, al_nn] at hb4p
      (exfalso; omega) --END
    · have hb4p := hb4.h; try simp only [al_ete, al_dfn, Bool.not_eq_true', Bool.not_eq_false', al_ne, Bool.not_not, al_nn] at hb4p
      refine W_skip ?_
      refine thn_normal ?_
      refine W_seq ?_
      refine W_seq ?_
      refine W_region rfl ?_
      refine WO_p (PS_move_ptr rfl) ?_
      refine WO_p (PS_nilCheck rfl) ?_
      refine WO_p (PS_fieldAddr 2404 Hvad.runUnderlying69 rfl Hvad.sizeOf5 rfl rfl) ?_
      refine WO_load (.int _ _) Hvad.isAgg5 rfl (Hb.h (by repeat (first | assumption | exact Hb.newY _ _ | refine Hb.alloc ?_ | refine Hb.drew ?_ | refine Hb.ext (by assumption) ?_ | exact Hb.setSameL (by first | omega | (simp only [size_alloc, size_setB, size_drew]; omega)) | exact Hb.setSame (by assumption) | refine Hb.set (by first | omega | (simp only [size_alloc, size_setB, size_drew]; omega)) ?_ ))) (Ce.h (by first | assumption | exact ⟨rfl⟩)) ?_
      refine WO_p (PS_neq rfl rfl) ?_
      refine WO_p (PS_move_bool rfl) ?_
      refine WO_if (t := 20) rfl (fun hb6 => ?_) (fun hb6 => ?_)
      · have hb6p := hb6.h; try simp only [al_ete, al_dfn, Bool.not_eq_true', Bool.not_eq_false', al_ne, Bool.not_not, al_nn] at hb6p
        refine WO_guardT rfl rfl hb6.h ?_
        refine WO_p (PS_move_ptr rfl) ?_
        refine WO_guardT rfl rfl hb6.h ?_
        refine WO_p (PS_nilCheck rfl) ?_
        refine WO_guardT rfl rfl hb6.h ?_
        refine WO_p (PS_fieldAddr 2405 Hvad.runUnderlying69 rfl Hvad.sizeOf5 rfl rfl) ?_
        refine WO_guardT rfl rfl hb6.h ?_
        refine WO_load (.int _ _) Hvad.isAgg5 rfl (Hb.h (by repeat (first | assumption | exact Hb.newY _ _ | refine Hb.alloc ?_ | refine Hb.drew ?_ | refine Hb.ext (by assumption) ?_ | exact Hb.setSameL (by first | omega | (simp only [size_alloc, size_setB, size_drew]; omega)) | exact Hb.setSame (by assumption) | refine Hb.set (by first | omega | (simp only [size_alloc, size_setB, size_drew]; omega)) ?_ ))) (Ce.h (by first | assumption | exact ⟨rfl⟩)) ?_
        refine WO_guardT rfl rfl hb6.h ?_
        refine WO_p (PS_neq rfl rfl) ?_
        refine WO_p (PS_pickT rfl hb6.h rfl) ?_
        refine WO_p (PS_move_bool rfl) ?_
        refine WO_if (t := 27) rfl (fun hb8 => ?_) (fun hb8 => ?_)
        · have hb8p := hb8.h; try simp only [al_ete, al_dfn, Bool.not_eq_true', Bool.not_eq_false', al_ne, Bool.not_not, al_nn] at hb8p
          (exfalso; first | omega | simp_all) --END
        · have hb8p := hb8.h; try simp only [al_ete, al_dfn, Bool.not_eq_true', Bool.not_eq_false', al_ne, Bool.not_not, al_nn] at hb8p
          refine WO_guardT rfl rfl hb8.h ?_
          refine WO_p (PS_move_ptr rfl) ?_
          refine WO_guardT rfl rfl hb8.h ?_
          refine WO_p (PS_nilCheck rfl) ?_
          refine WO_guardT rfl rfl hb8.h ?_
          refine WO_p (PS_fieldAddr 2405 Hvad.runUnderlying69 rfl Hvad.sizeOf5 rfl rfl) ?_
          refine WO_guardT rfl rfl hb8.h ?_
          refine WO_load (.int _ _) Hvad.isAgg5 rfl (Hb.h (by repeat (first | assumption | exact Hb.newY _ _ | refine Hb.alloc ?_ | refine Hb.drew ?_ | refine Hb.ext (by assumption) ?_ | exact Hb.setSameL (by first | omega | (simp only [size_alloc, size_setB, size_drew]; omega)) | exact Hb.setSame (by assumption) | refine Hb.set (by first | omega | (simp only [size_alloc, size_setB, size_drew]; omega)) ?_ ))) (Ce.h (by first | assumption | exact ⟨rfl⟩)) ?_
          refine WO_guardT rfl rfl hb8.h ?_
          refine WO_p (PS_geq rfl rfl) ?_
          refine WO_p (PS_pickF rfl hb8.h rfl) ?_
          refine WO_nil ?_
          refine thn_normal ?_
          refine W_if rfl (fun hb10 => ?_) (fun hb10 => ?_)
          · have hb10p := hb10.h; try simp only [al_ete, al_dfn, Bool.not_eq_true', Bool.not_eq_false', al_ne, Bool.not_not, al_nn] at hb10p
            (exfalso; omega) --END
          · have hb10p := hb10.h; try simp only [al_ete, al_dfn, Bool.not_eq_true', Bool.not_eq_false', al_ne, Bool.not_not, al_nn] at hb10p
            refine W_skip ?_
            refine thn_normal ?_
            refine W_seq ?_
            refine W_drawE [false, false, false, false, false, false, false, false, false, false, false, false, false, false, false, false, false, false, false, false, false, false, false, false, false, false, false] hmix (by kernel_rfl) rfl ?_
            refine WH_p (PS_move_ptr rfl) rfl ?_
            refine WH_p (PS_nilCheck rfl) rfl ?_
            refine WH_p (PS_fieldAddr 2258 Hvad.runUnderlying69 rfl Hvad.sizeOf67 rfl rfl) rfl ?_
            refine WH_load (.int _ _) Hvad.isAgg67 rfl (Hb.h (by repeat (first | assumption | exact Hb.newY _ _ | refine Hb.alloc ?_ | refine Hb.drew ?_ | refine Hb.ext (by assumption) ?_ | exact Hb.setSameL (by first | omega | (simp only [size_alloc, size_setB, size_drew]; omega)) | exact Hb.setSame (by assumption) | refine Hb.set (by first | omega | (simp only [size_alloc, size_setB, size_drew]; omega)) ?_ ))) (Ce.h (by first | assumption | exact ⟨rfl⟩)) ?_
            refine WH_p (PS_geq rfl rfl) rfl ?_
            refine WH_p (PS_move_ptr rfl) rfl ?_
            refine WH_p (PS_nilCheck rfl) rfl ?_
            refine WH_p (PS_fieldAddr 2404 Hvad.runUnderlying69 rfl Hvad.sizeOf5 rfl rfl) rfl ?_
            refine WH_load (.int _ _) Hvad.isAgg5 rfl (Hb.h (by repeat (first | assumption | exact Hb.newY _ _ | refine Hb.alloc ?_ | refine Hb.drew ?_ | refine Hb.ext (by assumption) ?_ | exact Hb.setSameL (by first | omega | (simp only [size_alloc, size_setB, size_drew]; omega)) | exact Hb.setSame (by assumption) | refine Hb.set (by first | omega | (simp only [size_alloc, size_setB, size_drew]; omega)) ?_ ))) (Ce.h (by first | assumption | exact ⟨rfl⟩)) ?_
            refine WH_p (PS_eql rfl rfl) rfl ?_
            refine WH_p (PS_eqlbool Hvad.underlying4 rfl rfl) rfl ?_
            refine WH_p (PS_move_bool rfl) rfl ?_
            refine WH_if (t := 45) rfl (fun hb14 => ?_) (fun hb14 => ?_)
            · have hb14p := hb14.h; try simp only [al_ete, al_dfn, Bool.not_eq_true', Bool.not_eq_false', al_ne, Bool.not_not, al_nn] at hb14p
              refine WH_guardT rfl rfl hb14.h ?_
              refine WH_p (PS_move_ptr rfl) rfl ?_
              refine WH_guardT rfl rfl hb14.h ?_
              refine WH_p (PS_nilCheck rfl) rfl ?_
              refine WH_guardT rfl rfl hb14.h ?_
              refine WH_p (PS_fieldAddr 1 Hvad.runUnderlying69 rfl Hvad.sizeOf57 rfl rfl) rfl ?_
              refine WH_guardT rfl rfl hb14.h ?_
              refine WH_p (PS_fieldAddr 9 Hvad.runUnderlying57 rfl Hvad.sizeOf5 rfl rfl) rfl ?_
              refine WH_guardT rfl rfl hb14.h ?_
              refine WH_load (.int _ _) Hvad.isAgg5 rfl (Hb.h (by repeat (first | assumption | exact Hb.newY _ _ | refine Hb.alloc ?_ | refine Hb.drew ?_ | refine Hb.ext (by assumption) ?_ | exact Hb.setSameL (by first | omega | (simp only [size_alloc, size_setB, size_drew]; omega)) | exact Hb.setSame (by assumption) | refine Hb.set (by first | omega | (simp only [size_alloc, size_setB, size_drew]; omega)) ?_ ))) (Ce.h (by first | assumption | exact ⟨rfl⟩)) ?_
              refine WH_guardT rfl rfl hb14.h ?_
              refine WH_p (PS_conv_i64n Hvad.runUnderlying5 Hvad.runUnderlying3 rfl (by omega) (by omega)) rfl ?_
              refine WH_guardT rfl rfl hb14.h ?_
              refine WH_p (PS_move_ptr rfl) rfl ?_
              refine WH_guardT rfl rfl hb14.h ?_
              refine WH_p (PS_nilCheck rfl) rfl ?_
              refine WH_guardT rfl rfl hb14.h ?_
              refine WH_p (PS_fieldAddr 2258 Hvad.runUnderlying69 rfl Hvad.sizeOf67 rfl rfl) rfl ?_
              refine WH_guardT rfl rfl hb14.h ?_
              refine WH_load (.int _ _) Hvad.isAgg67 rfl (Hb.h (by repeat (first | assumption | exact Hb.newY _ _ | refine Hb.alloc ?_ | refine Hb.drew ?_ | refine Hb.ext (by assumption) ?_ | exact Hb.setSameL (by first | omega | (simp only [size_alloc, size_setB, size_drew]; omega)) | exact Hb.setSame (by assumption) | refine Hb.set (by first | omega | (simp only [size_alloc, size_setB, size_drew]; omega)) ?_ ))) (Ce.h (by first | assumption | exact ⟨rfl⟩)) ?_
              refine WH_guardT rfl rfl hb14.h ?_
              refine WH_p (PS_conv_i64n Hvad.runUnderlying67 Hvad.runUnderlying3 rfl (by omega) (by omega)) rfl ?_
              refine WH_guardT rfl rfl hb14.h ?_
              refine WH_p (PS_add_i64n rfl rfl (by omega) (by omega)) rfl ?_
              refine WH_guardT rfl rfl hb14.h ?_
              refine WH_p (PS_eql rfl rfl) rfl ?_
              refine WH_p (PS_pickT rfl hb14.h rfl) rfl ?_
              refine WH_p (PS_assign_bool rfl) rfl ?_
              refine WH_nil ?_
              refine thn_normal ?_
              refine W_ret ?_
              refine bodyQ_ret1 Hvad.results135 rfl (.bool _) rfl ?_
              exact ⟨congrArg Value.bool (by simp <;> omega), (by repeat (first | assumption | exact Ext.refl _ | refine Ext.alloc ?_ _ | refine Ext.drew ?_ | refine Ext.setB ?_ (by first | omega | (simp only [size_alloc, size_setB, size_drew]; omega)) _ | refine Ext.trans ?_ (by assumption)))⟩
            · have hb14p := hb14.h; try simp only [al_ete, al_dfn, Bool.not_eq_true', Bool.not_eq_false', al_ne, Bool.not_not, al_nn] at hb14p
              (exfalso; simp_all <;> omega) --END
      · have hb6p := hb6.h; try simp only [al_ete, al_dfn, Bool.not_eq_true', Bool.not_eq_false', al_ne, Bool.not_not, al_nn] at hb6p
        refine WO_guardF rfl rfl hb6.h ?_
        refine WO_guardF rfl rfl hb6.h ?_
        refine WO_guardF rfl rfl hb6.h ?_
        refine WO_guardF rfl rfl hb6.h ?_
        refine WO_guardF rfl rfl hb6.h ?_
        refine WO_p (PS_pickF rfl hb6.h rfl) ?_
        refine WO_p (PS_move_bool rfl) ?_
        refine WO_guardT rfl rfl rfl ?_
        refine WO_p (PS_move_ptr rfl) ?_
        refine WO_guardT rfl rfl rfl ?_
        refine WO_p (PS_nilCheck rfl) ?_
        refine WO_guardT rfl rfl rfl ?_
        refine WO_p (PS_fieldAddr 2405 Hvad.runUnderlying69 rfl Hvad.sizeOf5 rfl rfl) ?_
        refine WO_guardT rfl rfl rfl ?_
        refine WO_load (.int _ _) Hvad.isAgg5 rfl (Hb.h (by repeat (first | assumption | exact Hb.newY _ _ | refine Hb.alloc ?_ | refine Hb.drew ?_ | refine Hb.ext (by assumption) ?_ | exact Hb.setSameL (by first | omega | (simp only [size_alloc, size_setB, size_drew]; omega)) | exact Hb.setSame (by assumption) | refine Hb.set (by first | omega | (simp only [size_alloc, size_setB, size_drew]; omega)) ?_ ))) (Ce.h (by first | assumption | exact ⟨rfl⟩)) ?_
        refine WO_guardT rfl rfl rfl ?_
        refine WO_p (PS_geq rfl rfl) ?_
        refine WO_p (PS_pickF rfl rfl rfl) ?_
        refine WO_nil ?_
        refine thn_normal ?_
        refine W_if rfl (fun hb17 => ?_) (fun hb17 => ?_)
        · have hb17p := hb17.h; try simp only [al_ete, al_dfn, Bool.not_eq_true', Bool.not_eq_false', al_ne, Bool.not_not, al_nn] at hb17p
          (exfalso; omega) --END
        · have hb17p := hb17.h; try simp only [al_ete, al_dfn, Bool.not_eq_true', Bool.not_eq_false', al_ne, Bool.not_not, al_nn] at hb17p
          refine W_skip ?_
          refine thn_normal ?_
          refine W_seq ?_
          refine W_drawE [false, false, false, false, false, false, false, false, false, false, false, false, false, false, false, false, false, false, false, false, false, false, false, false, false, false, false] hmix (by kernel_rfl) rfl ?_
          refine WH_p (PS_move_ptr rfl) rfl ?_
          refine WH_p (PS_nilCheck rfl) rfl ?_
          refine WH_p (PS_fieldAddr 2258 Hvad.runUnderlying69 rfl Hvad.sizeOf67 rfl rfl) rfl ?_
          refine WH_load (.int _ _) Hvad.isAgg67 rfl (Hb.h (by repeat (first | assumption | exact Hb.newY _ _ | refine Hb.alloc ?_ | refine Hb.drew ?_ | refine Hb.ext (by assumption) ?_ | exact Hb.setSameL (by first | omega | (simp only [size_alloc, size_setB, size_drew]; omega)) | exact Hb.setSame (by assumption) | refine Hb.set (by first | omega | (simp only [size_alloc, size_setB, size_drew]; omega)) ?_ ))) (Ce.h (by first | assumption | exact ⟨rfl⟩)) ?_
          refine WH_p (PS_geq rfl rfl) rfl ?_
          refine WH_p (PS_move_ptr rfl) rfl ?_
          refine WH_p (PS_nilCheck rfl) rfl ?_
          refine WH_p (PS_fieldAddr 2404 Hvad.runUnderlying69 rfl Hvad.sizeOf5 rfl rfl) rfl ?_
          refine WH_load (.int _ _) Hvad.isAgg5 rfl (Hb.h (by repeat (first | assumption | exact Hb.newY _ _ | refine Hb.alloc ?_ | refine Hb.drew ?_ | refine Hb.ext (by assumption) ?_ | exact Hb.setSameL (by first | omega | (simp only [size_alloc, size_setB, size_drew]; omega)) | exact Hb.setSame (by assumption) | refine Hb.set (by first | omega | (simp only [size_alloc, size_setB, size_drew]; omega)) ?_ ))) (Ce.h (by first | assumption | exact ⟨rfl⟩)) ?_
          refine WH_p (PS_eql rfl rfl) rfl ?_
          refine WH_p (PS_eqlbool Hvad.underlying4 rfl rfl) rfl ?_
          refine WH_p (PS_move_bool rfl) rfl ?_
          refine WH_if (t := 45) rfl (fun hb21 => ?_) (fun hb21 => ?_)
          · have hb21p := hb21.h; try simp only [al_ete, al_dfn, Bool.not_eq_true', Bool.not_eq_false', al_ne, Bool.not_not, al_nn] at hb21p
            refine WH_guardT rfl rfl hb21.h ?_
            refine WH_p (PS_move_ptr rfl) rfl ?_
            refine WH_guardT rfl rfl hb21.h ?_
            refine WH_p (PS_nilCheck rfl) rfl ?_
            refine WH_guardT rfl rfl hb21.h ?_
            refine WH_p (PS_fieldAddr 1 Hvad.runUnderlying69 rfl Hvad.sizeOf57 rfl rfl) rfl ?_
            refine WH_guardT rfl rfl hb21.h ?_
            refine WH_p (PS_fieldAddr 9 Hvad.runUnderlying57 rfl Hvad.sizeOf5 rfl rfl) rfl ?_
            refine WH_guardT rfl rfl hb21.h ?_
            refine WH_load (.int _ _) Hvad.isAgg5 rfl (Hb.h (by repeat (first | assumption | exact Hb.newY _ _ | refine Hb.alloc ?_ | refine Hb.drew ?_ | refine Hb.ext (by assumption) ?_ | exact Hb.setSameL (by first | omega | (simp only [size_alloc, size_setB, size_drew]; omega)) | exact Hb.setSame (by assumption) | refine Hb.set (by first | omega | (simp only [size_alloc, size_setB, size_drew]; omega)) ?_ ))) (Ce.h (by first | assumption | exact ⟨rfl⟩)) ?_
            refine WH_guardT rfl rfl hb21.h ?_
            refine WH_p (PS_conv_i64n Hvad.runUnderlying5 Hvad.runUnderlying3 rfl (by omega) (by omega)) rfl ?_
            refine WH_guardT rfl rfl hb21.h ?_
            refine WH_p (PS_move_ptr rfl) rfl ?_
            refine WH_guardT rfl rfl hb21.h ?_
            refine WH_p (PS_nilCheck rfl) rfl ?_
            refine WH_guardT rfl rfl hb21.h ?_
            refine WH_p (PS_fieldAddr 2258 Hvad.runUnderlying69 rfl Hvad.sizeOf67 rfl rfl) rfl ?_
            refine WH_guardT rfl rfl hb21.h ?_
            refine WH_load (.int _ _) Hvad.isAgg67 rfl (Hb.h (by repeat (first | assumption | exact Hb.newY _ _ | refine Hb.alloc ?_ | refine Hb.drew ?_ | refine Hb.ext (by assumption) ?_ | exact Hb.setSameL (by first | omega | (simp only [size_alloc, size_setB, size_drew]; omega)) | exact Hb.setSame (by assumption) | refine Hb.set (by first | omega | (simp only [size_alloc, size_setB, size_drew]; omega)) ?_ ))) (Ce.h (by first | assumption | exact ⟨rfl⟩)) ?_
            refine WH_guardT rfl rfl hb21.h ?_
            refine WH_p (PS_conv_i64n Hvad.runUnderlying67 Hvad.runUnderlying3 rfl (by omega) (by omega)) rfl ?_
            refine WH_guardT rfl rfl hb21.h ?_
            refine WH_p (PS_add_i64n rfl rfl (by omega) (by omega)) rfl ?_
            refine WH_guardT rfl rfl hb21.h ?_
            refine WH_p (PS_eql rfl rfl) rfl ?_
            refine WH_p (PS_pickT rfl hb21.h rfl) rfl ?_
            refine WH_p (PS_assign_bool rfl) rfl ?_
            refine WH_nil ?_
            refine thn_normal ?_
            refine W_ret ?_
            refine bodyQ_ret1 Hvad.results135 rfl (.bool _) rfl ?_
            exact ⟨congrArg Value.bool (by simp <;> omega), (by repeat (first | assumption | exact Ext.refl _ | refine Ext.alloc ?_ _ | refine Ext.drew ?_ | refine Ext.setB ?_ (by first | omega | (simp only [size_alloc, size_setB, size_drew]; omega)) _ | refine Ext.trans ?_ (by assumption)))⟩
          · have hb21p := hb21.h; try simp only [al_ete, al_dfn, Bool.not_eq_true', Bool.not_eq_false', al_ne, Bool.not_not, al_nn] at hb21p
            (exfalso; simp_all <;> omega) --END

set_option maxRecDepth 10000 in
set_option maxHeartbeats 4000000 in
theorem entered_spec (C : Nat) (c : Array Value) (v : V) (B : VB) (m : Mc) (A : List Int) (w : World) (hM : MS w C c v B m) (hA : By A 20) (hen : v.entered A) : Ret Hvad.prog 227 #[.pointer (some ⟨C, 0, none⟩), .agg (ic .u8 A)] w fun u w' => u = .bool true ∧ Ext w w' := by
  have hblk := hM.vs.blk
  have hCl := hblk.lt
  have hcs := hM.sz
  have hc_s := hM.rep.s
  have hAl := hA.1
  have hla := hM.vs.ty.la
  have hc_a : Ce c (2435 + 0) (.slice (slp B.a) v.accts.length (slc B.a)) := hM.vs.rep.accts
  obtain ⟨xe, hxm, hxA⟩ := hen
  obtain ⟨j, hj⟩ := List.getElem?_of_mem hxm
  have hjl := lt_of_getElem? hj
  refine Ret_of_W Hvad.func227 rfl rfl ?_
  refine W_seq ?_
  refine W_region rfl ?_
  refine WO_boxG (.agg _) rfl ?_
  intro b3 v3 hg3 hE3 hH3 hl3
  try simp only [size_alloc, size_setB, size_drew] at hg3
  have hzz3 := hE3.1
  try simp only [size_alloc, size_setB, size_drew] at hzz3
  refine WO_p (PS_assign_bool rfl) ?_
  refine WO_nil ?_
  refine thn_normal ?_
  refine W_seq ?_
  refine W_seq ?_
  refine W_region rfl ?_
  refine WO_p (PS_move_ptr rfl) ?_
  refine WO_p (PS_nilCheck rfl) ?_
  refine WO_p (PS_fieldAddr 0 Hvad.runUnderlying69 rfl Hvad.sizeOf53 rfl rfl) ?_
  refine WO_load (.pointer _) Hvad.isAgg53 rfl (Hb.h (by repeat (first | assumption | exact Hb.newY _ _ | refine Hb.alloc ?_ | refine Hb.drew ?_ | refine Hb.ext (by assumption) ?_ | exact Hb.setSameL (by first | omega | (simp only [size_alloc, size_setB, size_drew]; omega)) | exact Hb.setSame (by assumption) | refine Hb.set (by first | omega | (simp only [size_alloc, size_setB, size_drew]; omega)) ?_ ))) (Ce.h (by first | assumption | exact ⟨rfl⟩)) ?_
  refine WO_p (PS_nilCheck rfl) ?_
  refine WO_p (PS_fieldAddr 0 Hvad.runUnderlying79 rfl Hvad.sizeOf70 rfl rfl) ?_
  refine WO_load (.slice _ _ _) Hvad.isAgg70 rfl (Hb.h (by repeat (first | assumption | exact Hb.newY _ _ | refine Hb.alloc ?_ | refine Hb.drew ?_ | refine Hb.ext (by assumption) ?_ | exact Hb.setSameL (by first | omega | (simp only [size_alloc, size_setB, size_drew]; omega)) | exact Hb.setSame (by assumption) | refine Hb.set (by first | omega | (simp only [size_alloc, size_setB, size_drew]; omega)) ?_ ))) (Ce.h (by first | assumption | exact ⟨rfl⟩)) ?_
  refine WO_p (PS_lenS Hvad.runUnderlying70 rfl) ?_
  refine WO_p (PS_move_int rfl) ?_
  refine WO_nil ?_
  refine thn_normal ?_
  refine W_block ?_
  refine W_loopN (fun k ρ w' => ∃ i : Nat, i + k = v.accts.length ∧ i ≤ j ∧ Fr [(0, .pointer (some ⟨C, 0, none⟩)), (3, .pointer (some ⟨b3, 0, none⟩)), (13, .int .i64 v.accts.length), (14, .int .i64 i)] ρ ∧ Ext w w' ∧ Hb w' b3 (.cells (ic .u8 A) 25 (0, 0))) v.accts.length ?_ ?_
  · exact ⟨0, by omega, by omega, ⟨rfl, rfl, rfl, rfl, trivial⟩, (by repeat (first | assumption | exact Ext.refl _ | refine Ext.alloc ?_ _ | refine Ext.drew ?_ | refine Ext.setB ?_ (by first | omega | (simp only [size_alloc, size_setB, size_drew]; omega)) _ | refine Ext.trans ?_ (by assumption))), Hb.mk (Hb.h (by repeat (first | assumption | exact Hb.newY _ _ | refine Hb.alloc ?_ | refine Hb.drew ?_ | refine Hb.ext (by assumption) ?_ | exact Hb.setSameL (by first | omega | (simp only [size_alloc, size_setB, size_drew]; omega)) | exact Hb.setSame (by assumption) | refine Hb.set (by first | omega | (simp only [size_alloc, size_setB, size_drew]; omega)) ?_ )))⟩
  intro k ρ w2 hI
  obtain ⟨i, hik, hij, hFr2, hE2, hb32⟩ := hI
  refine W_env _ hFr2 ?_
  have hz2 := hE2.1
  obtain ⟨xi, hxi⟩ : ∃ xi, v.accts[i]? = some xi := ⟨_, List.getElem?_eq_getElem (by omega)⟩
  obtain ⟨b, cap, r, hab, hcap, hr, hrs, hrow, hda, hbd, hil, hty, f0, f1, f2, f3, f4, f5, f6⟩ := (hM.vs.ext hE2).openA hxi
  have hda' : Ce c (2435 + 0) (.slice (some ⟨b, 0, none⟩) v.accts.length cap) := hda
  have hadl := hty.1.1
  clear hc_a
  refine W_seq ?_
  refine W_region rfl ?_
  refine WO_p (PS_lss rfl rfl) ?_
  refine WO_nil ?_
  refine thn_normal ?_
  refine W_seq ?_
  refine W_if rfl (fun hb2 => ?_) (fun hb2 => ?_)
  · have hb2p := hb2.h; try simp only [al_ete, al_dfn, Bool.not_eq_true', Bool.not_eq_false', al_ne, Bool.not_not, al_nn] at hb2p
    refine W_skip ?_
    refine thn_normal ?_
    refine W_seq ?_
    refine W_block ?_
    refine W_seq ?_
    refine W_region rfl ?_
    refine WO_p (PS_move_int rfl) ?_
    refine WO_p (PS_assign_int rfl) ?_
    refine WO_nil ?_
    refine thn_normal ?_
    refine W_seq ?_
    refine W_drawE [false, false, false, false, false, false, false, false, false, false, false, false, false] hmix (by kernel_rfl) rfl ?_
    refine WH_p (PS_move_ptr rfl) rfl ?_
    refine WH_p (PS_nilCheck rfl) rfl ?_
    refine WH_p (PS_fieldAddr 0 Hvad.runUnderlying69 rfl Hvad.sizeOf53 rfl rfl) rfl ?_
    refine WH_load (.pointer _) Hvad.isAgg53 rfl (Hb.h (by repeat (first | assumption | exact Hb.newY _ _ | refine Hb.alloc ?_ | refine Hb.drew ?_ | refine Hb.ext (by assumption) ?_ | exact Hb.setSameL (by first | omega | (simp only [size_alloc, size_setB, size_drew]; omega)) | exact Hb.setSame (by assumption) | refine Hb.set (by first | omega | (simp only [size_alloc, size_setB, size_drew]; omega)) ?_ ))) (Ce.h (by first | assumption | exact ⟨rfl⟩)) ?_
    refine WH_p (PS_nilCheck rfl) rfl ?_
    refine WH_p (PS_fieldAddr 0 Hvad.runUnderlying79 rfl Hvad.sizeOf70 rfl rfl) rfl ?_
    refine WH_load (.slice _ _ _) Hvad.isAgg70 rfl (Hb.h (by repeat (first | assumption | exact Hb.newY _ _ | refine Hb.alloc ?_ | refine Hb.drew ?_ | refine Hb.ext (by assumption) ?_ | exact Hb.setSameL (by first | omega | (simp only [size_alloc, size_setB, size_drew]; omega)) | exact Hb.setSame (by assumption) | refine Hb.set (by first | omega | (simp only [size_alloc, size_setB, size_drew]; omega)) ?_ ))) (Ce.h (by first | assumption | exact ⟨rfl⟩)) ?_
    refine WH_p (PS_move_int rfl) rfl ?_
    refine WH_p (PS_indexS Hvad.runUnderlying70 Hvad.sizeOf149 rfl rfl (by omega) (by omega)) rfl ?_
    rw [show (i : Int).toNat = i by omega]
    refine WH_p (PS_fieldAddr 0 Hvad.runUnderlying149 rfl Hvad.sizeOf25 rfl rfl) rfl ?_
    refine WH_loadA _ Hvad.isAgg25 Hvad.sizeOf25 rfl (Hb.h (by repeat (first | assumption | exact Hb.newY _ _ | refine Hb.alloc ?_ | refine Hb.drew ?_ | refine Hb.ext (by assumption) ?_ | exact Hb.setSameL (by first | omega | (simp only [size_alloc, size_setB, size_drew]; omega)) | exact Hb.setSame (by assumption) | refine Hb.set (by first | omega | (simp only [size_alloc, size_setB, size_drew]; omega)) ?_ ))) (by first | omega | assumption | rfl | decide | exact Nat.le_refl _ | (simp only [size_ic, Value.cells]; omega) | simp) (Xt.h (by first | assumption | exact Xt.whole rfl rfl | exact Xt.whole rfl (by simp only [size_ic, Value.cells]; omega) | exact ⟨rfl⟩)) ?_
    refine WH_loadA _ Hvad.isAgg25 Hvad.sizeOf25 rfl (Hb.h (by repeat (first | assumption | exact Hb.newY _ _ | refine Hb.alloc ?_ | refine Hb.drew ?_ | refine Hb.ext (by assumption) ?_ | exact Hb.setSameL (by first | omega | (simp only [size_alloc, size_setB, size_drew]; omega)) | exact Hb.setSame (by assumption) | refine Hb.set (by first | omega | (simp only [size_alloc, size_setB, size_drew]; omega)) ?_ ))) (by first | omega | assumption | rfl | decide | exact Nat.le_refl _ | (simp only [size_ic, Value.cells]; omega) | simp) (Xt.h (by first | assumption | exact Xt.whole rfl rfl | exact Xt.whole rfl (by simp only [size_ic, Value.cells]; omega) | exact ⟨rfl⟩)) ?_
    refine WH_p (PS_eqlA Hvad.underlying25 Hvad.underlying5 Hvad.sizeOf5 Hvad.eqGuardType25 rfl rfl (by first | omega | assumption | rfl | decide | exact Nat.le_refl _ | (simp only [size_ic, Value.cells]; omega) | simp) (by first | omega | assumption | rfl | decide | exact Nat.le_refl _ | (simp only [size_ic, Value.cells]; omega) | simp)) rfl ?_
    refine WH_nil ?_
    refine thn_normal ?_
    refine W_if rfl (fun hb4 => ?_) (fun hb4 => ?_)
    · have hb4p := hb4.h; try simp only [al_ete, al_dfn, Bool.not_eq_true', Bool.not_eq_false', al_ne, Bool.not_not, al_nn] at hb4p
      refine W_seq ?_
      refine W_region rfl ?_
      refine WO_p (PS_assign_bool rfl) ?_
      refine WO_nil ?_
      refine thn_normal ?_
      refine W_ret ?_
      refine inBlk_ret ?_
      refine thn_ret ?_
      refine thn_ret ?_
      refine inBlk_ret ?_
      refine thn_ret ?_
      refine bodyQ_ret1 Hvad.results227 rfl (.bool _) rfl ?_
      exact ⟨rfl, (by repeat (first | assumption | exact Ext.refl _ | refine Ext.alloc ?_ _ | refine Ext.drew ?_ | refine Ext.setB ?_ (by first | omega | (simp only [size_alloc, size_setB, size_drew]; omega)) _ | refine Ext.trans ?_ (by assumption)))⟩
    · have hb4p := hb4.h; try simp only [al_ete, al_dfn, Bool.not_eq_true', Bool.not_eq_false', al_ne, Bool.not_not, al_nn] at hb4p
      have hne : ¬ xi.addr = A := by simpa using hb4p
      have hij2 : i ≠ j := fun e => hne (by subst e; rw [hxi] at hj; injection hj with hj; rw [hj]; exact hxA)
      refine W_skip ?_
      refine inBlk_normal ?_
      refine thn_normal ?_
      refine W_region rfl ?_
      refine WO_p (PS_add_i64n rfl rfl (by omega) (by omega)) ?_
      refine WO_p (PS_move_int rfl) ?_
      refine WO_nil ?_
      refine thn_normal ?_
      exact ⟨k - 1, by omega, i + 1, by omega, by omega, ⟨rfl, rfl, rfl, congrArg (Value.int .i64) (by omega), trivial⟩, (by repeat (first | assumption | exact Ext.refl _ | refine Ext.alloc ?_ _ | refine Ext.drew ?_ | refine Ext.setB ?_ (by first | omega | (simp only [size_alloc, size_setB, size_drew]; omega)) _ | exact Ext.trans (by assumption) (by assumption) | refine Ext.trans ?_ (by assumption))), Hb.mk (Hb.h (by repeat (first | assumption | exact Hb.newY _ _ | refine Hb.alloc ?_ | refine Hb.drew ?_ | refine Hb.ext (by assumption) ?_ | exact Hb.setSameL (by first | omega | (simp only [size_alloc, size_setB, size_drew]; omega)) | exact Hb.setSame (by assumption) | refine Hb.set (by first | omega | (simp only [size_alloc, size_setB, size_drew]; omega)) ?_ )))⟩
  · have hb2p := hb2.h; try simp only [al_ete, al_dfn, Bool.not_eq_true', Bool.not_eq_false', al_ne, Bool.not_not, al_nn] at hb2p
    (exfalso; omega) --END

set_option maxRecDepth 10000 in
set_option maxHeartbeats 4000000 in
theorem snapsOK_spec (C : Nat) (c : Array Value) (v : V) (B : VB) (m : Mc) (n : Nat) (S : Int) (w : World) (hM : MS w C c v B m) (hk : Ck v m n S) : Ret Hvad.prog 139 #[.pointer (some ⟨C, 0, none⟩)] w fun u w' => u = .bool true ∧ Ext w w' := by
  have hblk := hM.vs.blk
  have hCl := hblk.lt
  have hcs := hM.sz
  have hc_s := hM.rep.s
  have hc_top := hM.rep.top
  rw [hk.top] at hc_top
  have hc_phase := hM.rep.phase
  have hn7 := hk.n7
  have hph := hk.ph
  have hpt := hM.ty.phase
  have hc_nm : Ce c (2435 + 24579) (.int .i32 v.nmarks) := hM.vs.rep.nmarks
  have hnm := hk.nm
  refine Ret_of_W Hvad.func139 rfl rfl ?_
  refine W_seq ?_
  refine W_region rfl ?_
  refine WO_p (PS_assign_bool rfl) ?_
  refine WO_nil ?_
  refine thn_normal ?_
  refine W_seq ?_
  refine W_region rfl ?_
  refine WO_p (PS_assign_int rfl) ?_
  refine WO_nil ?_
  refine thn_normal ?_
  refine W_seq ?_
  refine W_seq ?_
  refine W_region rfl ?_
  refine WO_p (PS_assign_int rfl) ?_
  refine WO_nil ?_
  refine thn_normal ?_
  refine W_block ?_
  refine W_loopN (fun k ρ w' => ∃ (i : Nat) (la : Int), i + k = n ∧ (i = 0 → la = -1) ∧ (∀ i' f', i = i' + 1 → m.frames[i']? = some f' → la = f'.snap) ∧ Fr [(0, .pointer (some ⟨C, 0, none⟩)), (3, .int .i32 la), (4, .int .i64 i)] ρ ∧ w' = w) n ?_ ?_
  · exact ⟨0, -1, by omega, fun _ => rfl, fun i' _ h => absurd h (by omega), ⟨rfl, rfl, rfl, trivial⟩, rfl⟩
  intro k ρ w2 hI
  obtain ⟨i, la, hik, hla0, hla1, hFr2, rfl⟩ := hI
  refine W_env _ hFr2 ?_
  refine W_seq ?_
  refine W_seq ?_
  refine W_region rfl ?_
  refine WO_p (PS_move_int rfl) ?_
  refine WO_p (PS_move_ptr rfl) ?_
  refine WO_p (PS_nilCheck rfl) ?_
  refine WO_p (PS_fieldAddr 2258 Hvad.runUnderlying69 rfl Hvad.sizeOf67 rfl rfl) ?_
  refine WO_load (.int _ _) Hvad.isAgg67 rfl (Hb.h (by repeat (first | assumption | exact Hb.newY _ _ | refine Hb.alloc ?_ | refine Hb.drew ?_ | refine Hb.ext (by assumption) ?_ | exact Hb.setSameL (by first | omega | (simp only [size_alloc, size_setB, size_drew]; omega)) | exact Hb.setSame (by assumption) | refine Hb.set (by first | omega | (simp only [size_alloc, size_setB, size_drew]; omega)) ?_ ))) (Ce.h (by first | assumption | exact ⟨rfl⟩)) ?_
  refine WO_p (PS_conv_i64n Hvad.runUnderlying67 Hvad.runUnderlying3 rfl (by omega) (by omega)) ?_
  refine WO_p (PS_leq rfl rfl) ?_
  refine WO_nil ?_
  refine thn_normal ?_
  refine W_if rfl (fun hb2 => ?_) (fun hb2 => ?_)
  · have hb2p := hb2.h; try simp only [al_ete, al_dfn, Bool.not_eq_true', Bool.not_eq_false', al_ne, Bool.not_not, al_nn] at hb2p
    obtain ⟨fi, hfi⟩ := frames_lt hM.ty (i := i) (by omega)
    obtain ⟨_, hftyi, hFi⟩ := hM.openF hfi
    have hf_snap := hFi.snap
    have hsi := hk.sn i fi (by omega) hfi
    have hlt : la < fi.snap := by
      rcases Nat.eq_zero_or_pos i with h0 | h0
      · rw [hla0 h0]; omega
      · obtain ⟨fp, hfp⟩ := frames_lt hM.ty (i := i - 1) (by omega)
        have := hla1 (i - 1) fp (by omega) hfp
        have := hk.sm (i - 1) fp fi (by omega) hfp (by rw [show i - 1 + 1 = i by omega]; exact hfi)
        omega
    refine W_skip ?_
    refine thn_normal ?_
    refine W_seq ?_
    refine W_block ?_
    refine W_seq ?_
    refine W_region rfl ?_
    refine WO_p (PS_move_ptr rfl) ?_
    refine WO_p (PS_move_int rfl) ?_
    refine WO_p (PS_nilCheck rfl) ?_
    refine WO_p (PS_fieldAddr 1803 Hvad.runUnderlying69 rfl Hvad.sizeOf66 rfl rfl) ?_
    refine WO_p (PS_indexA Hvad.runUnderlying66 Hvad.sizeOf65 rfl rfl (by omega) (by omega)) ?_
    rw [show (i : Int).toNat = i by omega]
    refine WO_p (PS_fieldAddr 8 Hvad.runUnderlying65 rfl Hvad.sizeOf21 rfl rfl) ?_
    refine WO_load (.int _ _) Hvad.isAgg21 rfl (Hb.h (by repeat (first | assumption | exact Hb.newY _ _ | refine Hb.alloc ?_ | refine Hb.drew ?_ | refine Hb.ext (by assumption) ?_ | exact Hb.setSameL (by first | omega | (simp only [size_alloc, size_setB, size_drew]; omega)) | exact Hb.setSame (by assumption) | refine Hb.set (by first | omega | (simp only [size_alloc, size_setB, size_drew]; omega)) ?_ ))) (Ce.h (by first | assumption | exact ⟨rfl⟩)) ?_
    refine WO_p (PS_assign_int rfl) ?_
    refine WO_nil ?_
    refine thn_normal ?_
    refine W_seq ?_
    refine W_seq ?_
    refine W_region rfl ?_
    refine WO_p (PS_move_int rfl) ?_
    refine WO_p (PS_move_int rfl) ?_
    refine WO_p (PS_leq rfl rfl) ?_
    refine WO_p (PS_move_bool rfl) ?_
    refine WO_if (t := 25) rfl (fun hb4 => ?_) (fun hb4 => ?_)
    · have hb4p := hb4.h; try simp only [al_ete, al_dfn, Bool.not_eq_true', Bool.not_eq_false', al_ne, Bool.not_not, al_nn] at hb4p
      (exfalso; omega) --END
    · have hb4p := hb4.h; try simp only [al_ete, al_dfn, Bool.not_eq_true', Bool.not_eq_false', al_ne, Bool.not_not, al_nn] at hb4p
      refine WO_guardT rfl rfl hb4.h ?_
      refine WO_p (PS_move_int rfl) ?_
      refine WO_guardT rfl rfl hb4.h ?_
      refine WO_p (PS_move_ptr rfl) ?_
      refine WO_guardT rfl rfl hb4.h ?_
      refine WO_p (PS_nilCheck rfl) ?_
      refine WO_guardT rfl rfl hb4.h ?_
      refine WO_p (PS_fieldAddr 0 Hvad.runUnderlying69 rfl Hvad.sizeOf53 rfl rfl) ?_
      refine WO_guardT rfl rfl hb4.h ?_
      refine WO_load (.pointer _) Hvad.isAgg53 rfl (Hb.h (by repeat (first | assumption | exact Hb.newY _ _ | refine Hb.alloc ?_ | refine Hb.drew ?_ | refine Hb.ext (by assumption) ?_ | exact Hb.setSameL (by first | omega | (simp only [size_alloc, size_setB, size_drew]; omega)) | exact Hb.setSame (by assumption) | refine Hb.set (by first | omega | (simp only [size_alloc, size_setB, size_drew]; omega)) ?_ ))) (Ce.h (by first | assumption | exact ⟨rfl⟩)) ?_
      refine WO_guardT rfl rfl hb4.h ?_
      refine WO_p (PS_nilCheck rfl) ?_
      refine WO_guardT rfl rfl hb4.h ?_
      refine WO_p (PS_fieldAddr 24579 Hvad.runUnderlying79 rfl Hvad.sizeOf21 rfl rfl) ?_
      refine WO_guardT rfl rfl hb4.h ?_
      refine WO_load (.int _ _) Hvad.isAgg21 rfl (Hb.h (by repeat (first | assumption | exact Hb.newY _ _ | refine Hb.alloc ?_ | refine Hb.drew ?_ | refine Hb.ext (by assumption) ?_ | exact Hb.setSameL (by first | omega | (simp only [size_alloc, size_setB, size_drew]; omega)) | exact Hb.setSame (by assumption) | refine Hb.set (by first | omega | (simp only [size_alloc, size_setB, size_drew]; omega)) ?_ ))) (Ce.h (by first | assumption | exact ⟨rfl⟩)) ?_
      refine WO_guardT rfl rfl hb4.h ?_
      refine WO_p (PS_geq rfl rfl) ?_
      refine WO_p (PS_pickF rfl hb4.h rfl) ?_
      refine WO_nil ?_
      refine thn_normal ?_
      refine W_if rfl (fun hb6 => ?_) (fun hb6 => ?_)
      · have hb6p := hb6.h; try simp only [al_ete, al_dfn, Bool.not_eq_true', Bool.not_eq_false', al_ne, Bool.not_not, al_nn] at hb6p
        (exfalso; omega) --END
      · have hb6p := hb6.h; try simp only [al_ete, al_dfn, Bool.not_eq_true', Bool.not_eq_false', al_ne, Bool.not_not, al_nn] at hb6p
        refine W_skip ?_
        refine thn_normal ?_
        refine W_region rfl ?_
        refine WO_p (PS_move_int rfl) ?_
        refine WO_p (PS_assign_int rfl) ?_
        refine WO_nil ?_
        refine inBlk_normal ?_
        refine thn_normal ?_
        refine W_region rfl ?_
        refine WO_p (PS_move_int rfl) ?_
        refine WO_p (PS_add_i64n rfl rfl (by omega) (by omega)) ?_
        refine WO_p (PS_assign_int rfl) ?_
        refine WO_nil ?_
        refine thn_normal ?_
        exact ⟨k - 1, by omega, i + 1, fi.snap, by omega, fun h => absurd h (by omega), fun i2 f2 h2 hf2 => by (have e : i2 = i := by omega); subst e; rw [hfi] at hf2; injection hf2 with hf2; rw [hf2], ⟨rfl, rfl, congrArg (Value.int .i64) (by omega), trivial⟩, rfl⟩
  · have hb2p := hb2.h; try simp only [al_ete, al_dfn, Bool.not_eq_true', Bool.not_eq_false', al_ne, Bool.not_not, al_nn] at hb2p
    refine W_exit ?_
    refine thn_exit ?_
    refine thn_exit ?_
    refine inBlk_exit ?_
    refine thn_normal ?_
    refine W_seq ?_
    refine W_region rfl ?_
    refine WO_p (PS_assign_bool rfl) ?_
    refine WO_nil ?_
    refine thn_normal ?_
    refine W_ret ?_
    refine bodyQ_ret1 Hvad.results139 rfl (.bool _) rfl ?_
    exact ⟨rfl, (by repeat (first | assumption | exact Ext.refl _ | refine Ext.alloc ?_ _ | refine Ext.drew ?_ | refine Ext.setB ?_ (by first | omega | (simp only [size_alloc, size_setB, size_drew]; omega)) _ | refine Ext.trans ?_ (by assumption)))⟩

set_option maxRecDepth 10000 in
set_option maxHeartbeats 4000000 in
theorem gas_spec (C : Nat) (c : Array Value) (v : V) (B : VB) (m : Mc) (n : Nat) (S : Int) (w : World) (hM : MS w C c v B m) (hk : Ck v m n S) : Ret Hvad.prog 16 #[.pointer (some ⟨C, 0, none⟩)] w fun u w' => u = .tuple #[.int .u64 (gOf m n), .bool true] ∧ Ext w w' := by
  have hblk := hM.vs.blk
  have hCl := hblk.lt
  have hcs := hM.sz
  have hc_s := hM.rep.s
  have hc_top := hM.rep.top
  rw [hk.top] at hc_top
  have hc_phase := hM.rep.phase
  have hn7 := hk.n7
  have hph := hk.ph
  have hpt := hM.ty.phase
  obtain ⟨f0, hf0⟩ := frames_lt hM.ty (i := 0) (by decide)
  obtain ⟨_, hfty0, hF0⟩ := hM.openF hf0
  have hf_gas0 : Ce c (1803 + (0 : Int).toNat * 65 + 7) (.int .u64 f0.gas) := hF0.gas
  have hgt : gOf m n ≤ m.txgas := hk.gs
  have htx := hM.ty.txgas
  refine Ret_of_W Hvad.func16 rfl rfl ?_
  refine W_seq ?_
  refine W_region rfl ?_
  refine WO_p (PS_assign_int rfl) ?_
  refine WO_p (PS_assign_bool rfl) ?_
  refine WO_nil ?_
  refine thn_normal ?_
  refine W_seq ?_
  refine W_seq ?_
  refine W_region rfl ?_
  refine WO_p (PS_move_ptr rfl) ?_
  refine WO_p (PS_nilCheck rfl) ?_
  refine WO_p (PS_fieldAddr 2404 Hvad.runUnderlying69 rfl Hvad.sizeOf5 rfl rfl) ?_
  refine WO_load (.int _ _) Hvad.isAgg5 rfl (Hb.h (by repeat (first | assumption | exact Hb.newY _ _ | refine Hb.alloc ?_ | refine Hb.drew ?_ | refine Hb.ext (by assumption) ?_ | exact Hb.setSameL (by first | omega | (simp only [size_alloc, size_setB, size_drew]; omega)) | exact Hb.setSame (by assumption) | refine Hb.set (by first | omega | (simp only [size_alloc, size_setB, size_drew]; omega)) ?_ ))) (Ce.h (by first | assumption | exact ⟨rfl⟩)) ?_
  refine WO_nil ?_
  refine thn_normal ?_
  refine W_block ?_
  refine W_seq ?_
  refine W_region rfl ?_
  refine WO_p (PS_eql rfl rfl) ?_
  refine WO_p (PS_assign_bool rfl) ?_
  refine WO_nil ?_
  refine thn_normal ?_
  refine W_if rfl (fun hb2 => ?_) (fun hb2 => ?_)
  · have hb2p := hb2.h; try simp only [al_ete, al_dfn, Bool.not_eq_true', Bool.not_eq_false', al_ne, Bool.not_not, al_nn] at hb2p
    refine W_seq ?_
    refine W_region rfl ?_
    refine WO_p (PS_move_ptr rfl) ?_
    refine WO_p (PS_nilCheck rfl) ?_
    refine WO_p (PS_fieldAddr 1803 Hvad.runUnderlying69 rfl Hvad.sizeOf66 rfl rfl) ?_
    refine WO_p (PS_indexA Hvad.runUnderlying66 Hvad.sizeOf65 rfl rfl (by omega) (by omega)) ?_
    refine WO_p (PS_fieldAddr 7 Hvad.runUnderlying65 rfl Hvad.sizeOf26 rfl rfl) ?_
    refine WO_load (.int _ _) Hvad.isAgg26 rfl (Hb.h (by repeat (first | assumption | exact Hb.newY _ _ | refine Hb.alloc ?_ | refine Hb.drew ?_ | refine Hb.ext (by assumption) ?_ | exact Hb.setSameL (by first | omega | (simp only [size_alloc, size_setB, size_drew]; omega)) | exact Hb.setSame (by assumption) | refine Hb.set (by first | omega | (simp only [size_alloc, size_setB, size_drew]; omega)) ?_ ))) (Ce.h (by first | assumption | exact ⟨rfl⟩)) ?_
    refine WO_p (PS_assign_int rfl) ?_
    refine WO_p (PS_assign_bool rfl) ?_
    refine WO_nil ?_
    refine thn_normal ?_
    refine W_ret ?_
    refine inBlk_ret ?_
    refine thn_ret ?_
    refine bodyQ_ret2 Hvad.results16 rfl rfl (.int _ _) (.bool _) rfl rfl ?_
    exact ⟨by unfold gOf; rw [if_neg (by omega), if_pos (by omega), gasOf_some hf0], (by repeat (first | assumption | exact Ext.refl _ | refine Ext.alloc ?_ _ | refine Ext.drew ?_ | refine Ext.setB ?_ (by first | omega | (simp only [size_alloc, size_setB, size_drew]; omega)) _ | exact Ext.trans (by assumption) (by assumption) | refine Ext.trans ?_ (by assumption)))⟩
  · have hb2p := hb2.h; try simp only [al_ete, al_dfn, Bool.not_eq_true', Bool.not_eq_false', al_ne, Bool.not_not, al_nn] at hb2p
    refine W_seq ?_
    refine W_region rfl ?_
    refine WO_p (PS_eql rfl rfl) ?_
    refine WO_p (PS_assign_bool rfl) ?_
    refine WO_nil ?_
    refine thn_normal ?_
    refine W_if rfl (fun hb4 => ?_) (fun hb4 => ?_)
    · have hb4p := hb4.h; try simp only [al_ete, al_dfn, Bool.not_eq_true', Bool.not_eq_false', al_ne, Bool.not_not, al_nn] at hb4p
      have hp1 : m.phase = 1 := by omega
      have hgo : gOf m n = gasTo m.frames n := by unfold gOf; rw [if_pos hp1]
      refine W_seq ?_
      refine W_region rfl ?_
      refine WO_p (PS_assign_int rfl) ?_
      refine WO_nil ?_
      refine thn_normal ?_
      refine W_seq ?_
      refine W_seq ?_
      refine W_region rfl ?_
      refine WO_p (PS_assign_int rfl) ?_
      refine WO_nil ?_
      refine thn_normal ?_
      refine W_block ?_
      refine W_loopN (fun k ρ w' => ∃ (i : Nat), i + k = n ∧ Fr [(0, .pointer (some ⟨C, 0, none⟩)), (4, .int .u64 (gasTo m.frames i)), (5, .int .i64 i)] ρ ∧ w' = w) n ?_ ?_
      · exact ⟨0, by omega, ⟨rfl, rfl, rfl, trivial⟩, rfl⟩
      intro k ρ w2 hI
      obtain ⟨i, hik, hFr2, rfl⟩ := hI
      refine W_env _ hFr2 ?_
      have hgi := gasTo_mono (gasOf_nn hM.ty) i n (by omega)
      have hgi0 := gasTo_mono (gasOf_nn hM.ty) 0 i (by omega)
      simp only [gasTo] at hgi0
      refine W_seq ?_
      refine W_seq ?_
      refine W_region rfl ?_
      refine WO_p (PS_move_int rfl) ?_
      refine WO_p (PS_move_ptr rfl) ?_
      refine WO_p (PS_nilCheck rfl) ?_
      refine WO_p (PS_fieldAddr 2258 Hvad.runUnderlying69 rfl Hvad.sizeOf67 rfl rfl) ?_
      refine WO_load (.int _ _) Hvad.isAgg67 rfl (Hb.h (by repeat (first | assumption | exact Hb.newY _ _ | refine Hb.alloc ?_ | refine Hb.drew ?_ | refine Hb.ext (by assumption) ?_ | exact Hb.setSameL (by first | omega | (simp only [size_alloc, size_setB, size_drew]; omega)) | exact Hb.setSame (by assumption) | refine Hb.set (by first | omega | (simp only [size_alloc, size_setB, size_drew]; omega)) ?_ ))) (Ce.h (by first | assumption | exact ⟨rfl⟩)) ?_
      refine WO_p (PS_conv_i64n Hvad.runUnderlying67 Hvad.runUnderlying3 rfl (by omega) (by omega)) ?_
      refine WO_p (PS_leq rfl rfl) ?_
      refine WO_p (PS_move_bool rfl) ?_
      refine WO_if (t := 27) rfl (fun hb6 => ?_) (fun hb6 => ?_)
      · have hb6p := hb6.h; try simp only [al_ete, al_dfn, Bool.not_eq_true', Bool.not_eq_false', al_ne, Bool.not_not, al_nn] at hb6p
        refine WO_guardT rfl rfl hb6.h ?_
        refine WO_p (PS_move_int rfl) ?_
        refine WO_guardT rfl rfl hb6.h ?_
        refine WO_p (PS_leq rfl rfl) ?_
        refine WO_p (PS_pickT rfl hb6.h rfl) ?_
        refine WO_nil ?_
        refine thn_normal ?_
        refine W_if rfl (fun hb8 => ?_) (fun hb8 => ?_)
        · have hb8p := hb8.h; try simp only [al_ete, al_dfn, Bool.not_eq_true', Bool.not_eq_false', al_ne, Bool.not_not, al_nn] at hb8p
          obtain ⟨fi, hfi⟩ := frames_lt hM.ty (i := i) (by omega)
          obtain ⟨_, hftyi, hFi⟩ := hM.openF hfi
          have hf_gas := hFi.gas
          have hgi1 := gasTo_mono (gasOf_nn hM.ty) (i + 1) n (by omega)
          simp only [gasTo] at hgi1
          rw [gasOf_some hfi] at hgi1
          have hfgi := hftyi.gas
          refine W_skip ?_
          refine thn_normal ?_
          refine W_seq ?_
          refine W_block ?_
          refine W_seq ?_
          refine W_seq ?_
          refine W_region rfl ?_
          refine WO_p (PS_move_ptr rfl) ?_
          refine WO_p (PS_move_int rfl) ?_
          refine WO_p (PS_nilCheck rfl) ?_
          refine WO_p (PS_fieldAddr 1803 Hvad.runUnderlying69 rfl Hvad.sizeOf66 rfl rfl) ?_
          refine WO_p (PS_indexA Hvad.runUnderlying66 Hvad.sizeOf65 rfl rfl (by omega) (by omega)) ?_
          rw [show (i : Int).toNat = i by omega]
          refine WO_p (PS_fieldAddr 7 Hvad.runUnderlying65 rfl Hvad.sizeOf26 rfl rfl) ?_
          refine WO_load (.int _ _) Hvad.isAgg26 rfl (Hb.h (by repeat (first | assumption | exact Hb.newY _ _ | refine Hb.alloc ?_ | refine Hb.drew ?_ | refine Hb.ext (by assumption) ?_ | exact Hb.setSameL (by first | omega | (simp only [size_alloc, size_setB, size_drew]; omega)) | exact Hb.setSame (by assumption) | refine Hb.set (by first | omega | (simp only [size_alloc, size_setB, size_drew]; omega)) ?_ ))) (Ce.h (by first | assumption | exact ⟨rfl⟩)) ?_
          refine WO_p (PS_move_int rfl) ?_
          refine WO_p (PS_sub_u64n rfl rfl (by omega) (by omega)) ?_
          refine WO_p (PS_gtr rfl rfl) ?_
          refine WO_nil ?_
          refine thn_normal ?_
          refine W_if rfl (fun hb10 => ?_) (fun hb10 => ?_)
          · have hb10p := hb10.h; try simp only [al_ete, al_dfn, Bool.not_eq_true', Bool.not_eq_false', al_ne, Bool.not_not, al_nn] at hb10p
            (exfalso; omega) --END
          · have hb10p := hb10.h; try simp only [al_ete, al_dfn, Bool.not_eq_true', Bool.not_eq_false', al_ne, Bool.not_not, al_nn] at hb10p
            refine W_skip ?_
            refine thn_normal ?_
            refine W_region rfl ?_
            refine WO_p (PS_move_int rfl) ?_
            refine WO_p (PS_move_ptr rfl) ?_
            refine WO_p (PS_move_int rfl) ?_
            refine WO_p (PS_nilCheck rfl) ?_
            refine WO_p (PS_fieldAddr 1803 Hvad.runUnderlying69 rfl Hvad.sizeOf66 rfl rfl) ?_
            refine WO_p (PS_indexA Hvad.runUnderlying66 Hvad.sizeOf65 rfl rfl (by omega) (by omega)) ?_
            rw [show (i : Int).toNat = i by omega]
            refine WO_p (PS_fieldAddr 7 Hvad.runUnderlying65 rfl Hvad.sizeOf26 rfl rfl) ?_
            refine WO_load (.int _ _) Hvad.isAgg26 rfl (Hb.h (by repeat (first | assumption | exact Hb.newY _ _ | refine Hb.alloc ?_ | refine Hb.drew ?_ | refine Hb.ext (by assumption) ?_ | exact Hb.setSameL (by first | omega | (simp only [size_alloc, size_setB, size_drew]; omega)) | exact Hb.setSame (by assumption) | refine Hb.set (by first | omega | (simp only [size_alloc, size_setB, size_drew]; omega)) ?_ ))) (Ce.h (by first | assumption | exact ⟨rfl⟩)) ?_
            refine WO_p (PS_add_u64n rfl rfl (by omega) (by omega)) ?_
            refine WO_p (PS_assign_int rfl) ?_
            refine WO_nil ?_
            refine inBlk_normal ?_
            refine thn_normal ?_
            refine W_region rfl ?_
            refine WO_p (PS_move_int rfl) ?_
            refine WO_p (PS_add_i64n rfl rfl (by omega) (by omega)) ?_
            refine WO_p (PS_assign_int rfl) ?_
            refine WO_nil ?_
            refine thn_normal ?_
            exact ⟨k - 1, by omega, i + 1, by omega, ⟨rfl, congrArg (Value.int .u64) (by simp only [gasTo]; rw [gasOf_some hfi]), congrArg (Value.int .i64) (by omega), trivial⟩, rfl⟩
        · have hb8p := hb8.h; try simp only [al_ete, al_dfn, Bool.not_eq_true', Bool.not_eq_false', al_ne, Bool.not_not, al_nn] at hb8p
          refine W_exit ?_
          refine thn_exit ?_
          refine thn_exit ?_
          refine inBlk_exit ?_
          refine thn_normal ?_
          refine W_seq ?_
          refine W_region rfl ?_
          refine WO_p (PS_move_int rfl) ?_
          refine WO_p (PS_assign_int rfl) ?_
          refine WO_p (PS_assign_bool rfl) ?_
          refine WO_nil ?_
          refine thn_normal ?_
          refine W_ret ?_
          refine inBlk_ret ?_
          refine thn_ret ?_
          refine bodyQ_ret2 Hvad.results16 rfl rfl (.int _ _) (.bool _) rfl rfl ?_
          exact ⟨by rw [hgo, show i = n by omega], (by repeat (first | assumption | exact Ext.refl _ | refine Ext.alloc ?_ _ | refine Ext.drew ?_ | refine Ext.setB ?_ (by first | omega | (simp only [size_alloc, size_setB, size_drew]; omega)) _ | exact Ext.trans (by assumption) (by assumption) | refine Ext.trans ?_ (by assumption)))⟩
      · have hb6p := hb6.h; try simp only [al_ete, al_dfn, Bool.not_eq_true', Bool.not_eq_false', al_ne, Bool.not_not, al_nn] at hb6p
        skip
        refine WO_guardF rfl rfl hb6.h ?_
        refine WO_guardF rfl rfl hb6.h ?_
        refine WO_p (PS_pickF rfl hb6.h rfl) ?_
        refine WO_nil ?_
        refine thn_normal ?_
        refine W_condF rfl rfl ?_
        refine W_exit ?_
        refine thn_exit ?_
        refine thn_exit ?_
        refine inBlk_exit ?_
        refine thn_normal ?_
        refine W_seq ?_
        refine W_region rfl ?_
        refine WO_p (PS_move_int rfl) ?_
        refine WO_p (PS_assign_int rfl) ?_
        refine WO_p (PS_assign_bool rfl) ?_
        refine WO_nil ?_
        refine thn_normal ?_
        refine W_ret ?_
        refine inBlk_ret ?_
        refine thn_ret ?_
        refine bodyQ_ret2 Hvad.results16 rfl rfl (.int _ _) (.bool _) rfl rfl ?_
        exact ⟨by rw [hgo, show i = n by omega], (by repeat (first | assumption | exact Ext.refl _ | refine Ext.alloc ?_ _ | refine Ext.drew ?_ | refine Ext.setB ?_ (by first | omega | (simp only [size_alloc, size_setB, size_drew]; omega)) _ | exact Ext.trans (by assumption) (by assumption) | refine Ext.trans ?_ (by assumption)))⟩
    · have hb4p := hb4.h; try simp only [al_ete, al_dfn, Bool.not_eq_true', Bool.not_eq_false', al_ne, Bool.not_not, al_nn] at hb4p
      refine W_skip ?_
      refine inBlk_normal ?_
      refine thn_normal ?_
      refine W_seq ?_
      refine W_region rfl ?_
      refine WO_p (PS_assign_int rfl) ?_
      refine WO_p (PS_assign_bool rfl) ?_
      refine WO_nil ?_
      refine thn_normal ?_
      refine W_ret ?_
      refine bodyQ_ret2 Hvad.results16 rfl rfl (.int _ _) (.bool _) rfl rfl ?_
      exact ⟨by unfold gOf; rw [if_neg (by omega), if_neg (by omega)], (by repeat (first | assumption | exact Ext.refl _ | refine Ext.alloc ?_ _ | refine Ext.drew ?_ | refine Ext.setB ?_ (by first | omega | (simp only [size_alloc, size_setB, size_drew]; omega)) _ | exact Ext.trans (by assumption) (by assumption) | refine Ext.trans ?_ (by assumption)))⟩

set_option maxRecDepth 10000 in
set_option maxHeartbeats 4000000 in
theorem spent_spec (C : Nat) (c : Array Value) (v : V) (B : VB) (m : Mc) (n : Nat) (S : Int) (w : World) (hM : MS w C c v B m) (hk : Ck v m n S) : Ret Hvad.prog 230 #[.pointer (some ⟨C, 0, none⟩)] w fun u w' => u = .tuple #[.int .u64 (m.txgas - gOf m n), .bool true] ∧ Ext w w' := by
  have hblk := hM.vs.blk
  have hCl := hblk.lt
  have hcs := hM.sz
  have hc_s := hM.rep.s
  have hc_top := hM.rep.top
  rw [hk.top] at hc_top
  have hc_phase := hM.rep.phase
  have hn7 := hk.n7
  have hph := hk.ph
  have hpt := hM.ty.phase
  have hc_tx := hM.rep.txgas
  have htx := hM.ty.txgas
  have hg0 := hk.g0
  have hgs := hk.gs
  refine Ret_of_W Hvad.func230 rfl rfl ?_
  refine W_seq ?_
  refine W_region rfl ?_
  refine WO_p (PS_assign_int rfl) ?_
  refine WO_p (PS_assign_bool rfl) ?_
  refine WO_nil ?_
  refine thn_normal ?_
  refine W_seq ?_
  refine W_region rfl ?_
  refine WO_p (PS_move_ptr rfl) ?_
  refine WO_call Hvad.call16 (by rfl) (Ret.mono (gas_spec C c v B m n S _ (MS.ext hM (by repeat (first | assumption | exact Ext.refl _ | refine Ext.alloc ?_ _ | refine Ext.drew ?_ | refine Ext.setB ?_ (by first | omega | (simp only [size_alloc, size_setB, size_drew]; omega)) _ | exact Ext.trans (by assumption) (by assumption) | refine Ext.trans ?_ (by assumption)))) hk) ?_)
  rintro _ w16_0 ⟨rfl, hE16_0⟩
  have hz16_0 := hE16_0.1
  try simp only [size_alloc, size_setB, size_drew] at hz16_0
  refine WO_p (PS_move_tuple rfl) ?_
  refine WO_p (PS_extract_int rfl rfl) ?_
  refine WO_p (PS_extract_bool rfl rfl) ?_
  refine WO_p (PS_assign_int rfl) ?_
  refine WO_p (PS_assign_bool rfl) ?_
  refine WO_nil ?_
  refine thn_normal ?_
  refine W_seq ?_
  refine W_seq ?_
  refine W_region rfl ?_
  refine WO_p (PS_move_bool rfl) ?_
  refine WO_p (PS_not rfl) ?_
  refine WO_p (PS_move_bool rfl) ?_
  refine WO_if (t := 13) rfl (fun hb4 => ?_) (fun hb4 => ?_)
  · have hb4p := hb4.h; try simp only [al_ete, al_dfn, Bool.not_eq_true', Bool.not_eq_false', al_ne, Bool.not_not, al_nn] at hb4p
    simp at hb4p --END
  · have hb4p := hb4.h; try simp only [al_ete, al_dfn, Bool.not_eq_true', Bool.not_eq_false', al_ne, Bool.not_not, al_nn] at hb4p
    refine WO_guardT rfl rfl hb4.h ?_
    refine WO_p (PS_move_int rfl) ?_
    refine WO_guardT rfl rfl hb4.h ?_
    refine WO_p (PS_move_ptr rfl) ?_
    refine WO_guardT rfl rfl hb4.h ?_
    refine WO_p (PS_nilCheck rfl) ?_
    refine WO_guardT rfl rfl hb4.h ?_
    refine WO_p (PS_fieldAddr 2408 Hvad.runUnderlying69 rfl Hvad.sizeOf26 rfl rfl) ?_
    refine WO_guardT rfl rfl hb4.h ?_
    refine WO_load (.int _ _) Hvad.isAgg26 rfl (Hb.h (by repeat (first | assumption | exact Hb.newY _ _ | refine Hb.alloc ?_ | refine Hb.drew ?_ | refine Hb.ext (by assumption) ?_ | exact Hb.setSameL (by first | omega | (simp only [size_alloc, size_setB, size_drew]; omega)) | exact Hb.setSame (by assumption) | refine Hb.set (by first | omega | (simp only [size_alloc, size_setB, size_drew]; omega)) ?_ ))) (Ce.h (by first | assumption | exact ⟨rfl⟩)) ?_
    refine WO_guardT rfl rfl hb4.h ?_
    refine WO_p (PS_gtr rfl rfl) ?_
    refine WO_p (PS_pickF rfl hb4.h rfl) ?_
    refine WO_nil ?_
    refine thn_normal ?_
    refine W_if rfl (fun hb6 => ?_) (fun hb6 => ?_)
    · have hb6p := hb6.h; try simp only [al_ete, al_dfn, Bool.not_eq_true', Bool.not_eq_false', al_ne, Bool.not_not, al_nn] at hb6p
      (exfalso; omega) --END
    · have hb6p := hb6.h; try simp only [al_ete, al_dfn, Bool.not_eq_true', Bool.not_eq_false', al_ne, Bool.not_not, al_nn] at hb6p
      refine W_skip ?_
      refine thn_normal ?_
      refine W_seq ?_
      refine W_region rfl ?_
      refine WO_p (PS_move_ptr rfl) ?_
      refine WO_p (PS_nilCheck rfl) ?_
      refine WO_p (PS_fieldAddr 2408 Hvad.runUnderlying69 rfl Hvad.sizeOf26 rfl rfl) ?_
      refine WO_load (.int _ _) Hvad.isAgg26 rfl (Hb.h (by repeat (first | assumption | exact Hb.newY _ _ | refine Hb.alloc ?_ | refine Hb.drew ?_ | refine Hb.ext (by assumption) ?_ | exact Hb.setSameL (by first | omega | (simp only [size_alloc, size_setB, size_drew]; omega)) | exact Hb.setSame (by assumption) | refine Hb.set (by first | omega | (simp only [size_alloc, size_setB, size_drew]; omega)) ?_ ))) (Ce.h (by first | assumption | exact ⟨rfl⟩)) ?_
      refine WO_p (PS_move_int rfl) ?_
      refine WO_p (PS_sub_u64n rfl rfl (by omega) (by omega)) ?_
      refine WO_p (PS_assign_int rfl) ?_
      refine WO_p (PS_assign_bool rfl) ?_
      refine WO_nil ?_
      refine thn_normal ?_
      refine W_ret ?_
      refine bodyQ_ret2 Hvad.results230 rfl rfl (.int _ _) (.bool _) rfl rfl ?_
      exact ⟨rfl, (by repeat (first | assumption | exact Ext.refl _ | refine Ext.alloc ?_ _ | refine Ext.drew ?_ | refine Ext.setB ?_ (by first | omega | (simp only [size_alloc, size_setB, size_drew]; omega)) _ | refine Ext.trans ?_ (by assumption)))⟩

end Go.Proofs.YgvadwGreat
