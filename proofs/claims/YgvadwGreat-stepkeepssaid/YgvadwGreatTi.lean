import Derived.Test.YgvadwGreatTh
namespace Go.Proofs.YgvadwGreat
set_option linter.unusedSimpArgs false
set_option linter.unusedVariables false

set_option maxRecDepth 10000 in
set_option maxHeartbeats 4000000 in
theorem memCheck1_spec (C : Nat) (c : Array Value) (v : V) (B : VB) (m : Mc) (n : Nat) (S : Int) (w : World) (hM : MS w C c v B m) (hk : Ck v m n S) : Ret Hvad.prog 288 #[.pointer (some ⟨C, 1, none⟩)] w fun u w' => u = .bool true ∧ Ext w w' := by
  have hblk := hM.vs.blk
  have hcs := hM.sz
  have hc_mt := hM.rep.mtop
  rw [hk.mtY] at hc_mt
  have hn7 := hk.n7
  have hb0 := (hM.openB hk.b0).1
  
  refine Ret_of_W Hvad.func288 rfl rfl ?_
  refine W_seq ?_
  refine W_region rfl ?_
  refine WO_p (PS_assign_bool rfl) ?_
  refine WO_nil ?_
  refine thn_normal ?_
  refine W_seq ?_
  refine W_region rfl ?_
  refine WO_p (PS_move_ptr rfl) ?_
  refine WO_p (PS_nilCheck rfl) ?_
  refine WO_p (PS_fieldAddr 9 Hvad.runUnderlying57 rfl Hvad.sizeOf5 rfl rfl) ?_
  refine WO_load (.int _ _) Hvad.isAgg5 rfl (Hb.h (by repeat (first | assumption | exact Hb.newY _ _ | refine Hb.alloc ?_ | refine Hb.drew ?_ | refine Hb.ext (by assumption) ?_ | exact Hb.setSameL (by first | omega | (simp only [size_alloc, size_setB, size_drew]; omega)) | exact Hb.setSame (by assumption) | refine Hb.set (by first | omega | (simp only [size_alloc, size_setB, size_drew]; omega)) ?_ ))) (Ce.h (by first | assumption | exact ⟨rfl⟩)) ?_
  refine WO_p (PS_leq rfl rfl) ?_
  refine WO_p (PS_assign_bool rfl) ?_
  refine WO_nil ?_
  refine thn_normal ?_
  refine W_ret ?_
  refine bodyQ_ret1 Hvad.results288 rfl (.bool _) rfl ?_
  exact ⟨congrArg Value.bool (by simp <;> omega), (by repeat (first | assumption | exact Ext.refl _ | refine Ext.alloc ?_ _ | refine Ext.drew ?_ | refine Ext.setB ?_ (by first | omega | (simp only [size_alloc, size_setB, size_drew]; omega)) _ | refine Ext.trans ?_ (by assumption)))⟩

set_option maxRecDepth 10000 in
set_option maxHeartbeats 4000000 in
theorem memCheck2_spec (C : Nat) (c : Array Value) (v : V) (B : VB) (m : Mc) (n : Nat) (S : Int) (w : World) (hM : MS w C c v B m) (hk : Ck v m n S) : Ret Hvad.prog 271 #[.pointer (some ⟨C, 1, none⟩)] w fun u w' => u = .bool true ∧ Ext w w' := by
  have hblk := hM.vs.blk
  have hcs := hM.sz
  have hc_mt := hM.rep.mtop
  rw [hk.mtY] at hc_mt
  have hn7 := hk.n7
  have hb0 := (hM.openB hk.b0).1
  
  refine Ret_of_W Hvad.func271 rfl rfl ?_
  refine W_seq ?_
  refine W_region rfl ?_
  refine WO_p (PS_assign_bool rfl) ?_
  refine WO_nil ?_
  refine thn_normal ?_
  refine W_seq ?_
  refine W_seq ?_
  refine W_region rfl ?_
  refine WO_p (PS_move_ptr rfl) ?_
  refine WO_call Hvad.call288 (by rfl) (Ret.mono (memCheck1_spec C c v B m n S _ (MS.ext hM (by repeat (first | assumption | exact Ext.refl _ | refine Ext.alloc ?_ _ | refine Ext.drew ?_ | refine Ext.setB ?_ (by first | omega | (simp only [size_alloc, size_setB, size_drew]; omega)) _ | exact Ext.trans (by assumption) (by assumption) | refine Ext.trans ?_ (by assumption)))) hk) ?_)
  rintro _ w288_0 ⟨rfl, hE288_0⟩
  have hz288_0 := hE288_0.1
  try simp only [size_alloc, size_setB, size_drew] at hz288_0
  refine WO_p (PS_not rfl) ?_
  refine WO_p (PS_move_bool rfl) ?_
  refine WO_if (t := 8) rfl (fun hb4 => ?_) (fun hb4 => ?_)
  · have hb4p := hb4.h; try simp only [al_ete, al_dfn, Bool.not_eq_true', Bool.not_eq_false', al_ne, Bool.not_not, al_nn] at hb4p
    simp at hb4p --END
  · have hb4p := hb4.h; try simp only [al_ete, al_dfn, Bool.not_eq_true', Bool.not_eq_false', al_ne, Bool.not_not, al_nn] at hb4p
    refine WO_guardT rfl rfl hb4.h ?_
    refine WO_p (PS_move_ptr rfl) ?_
    refine WO_guardT rfl rfl hb4.h ?_
    refine WO_p (PS_nilCheck rfl) ?_
    refine WO_guardT rfl rfl hb4.h ?_
    refine WO_p (PS_fieldAddr 1 Hvad.runUnderlying57 rfl Hvad.sizeOf55 rfl rfl) ?_
    refine WO_guardT rfl rfl hb4.h ?_
    refine WO_p (PS_indexA Hvad.runUnderlying55 Hvad.sizeOf54 rfl rfl (by omega) (by omega)) ?_
    refine WO_guardT rfl rfl hb4.h ?_
    refine WO_load (.int _ _) Hvad.isAgg54 rfl (Hb.h (by repeat (first | assumption | exact Hb.newY _ _ | refine Hb.alloc ?_ | refine Hb.drew ?_ | refine Hb.ext (by assumption) ?_ | exact Hb.setSameL (by first | omega | (simp only [size_alloc, size_setB, size_drew]; omega)) | exact Hb.setSame (by assumption) | refine Hb.set (by first | omega | (simp only [size_alloc, size_setB, size_drew]; omega)) ?_ ))) (Ce.h (by first | assumption | exact ⟨rfl⟩)) ?_
    refine WO_guardT rfl rfl hb4.h ?_
    refine WO_p (PS_neq rfl rfl) ?_
    refine WO_p (PS_pickF rfl hb4.h rfl) ?_
    refine WO_nil ?_
    refine thn_normal ?_
    refine W_if rfl (fun hb6 => ?_) (fun hb6 => ?_)
    · have hb6p := hb6.h; try simp only [al_ete, al_dfn, Bool.not_eq_true', Bool.not_eq_false', al_ne, Bool.not_not, al_nn] at hb6p
      simp at hb6p --END
    · have hb6p := hb6.h; try simp only [al_ete, al_dfn, Bool.not_eq_true', Bool.not_eq_false', al_ne, Bool.not_not, al_nn] at hb6p
      refine W_skip ?_
      refine thn_normal ?_
      refine W_seq ?_
      refine W_seq ?_
      refine W_region rfl ?_
      refine WO_p (PS_assign_int rfl) ?_
      refine WO_nil ?_
      refine thn_normal ?_
      refine W_block ?_
      refine W_loopN (fun k ρ w' => ∃ (i : Nat), i + k = n ∧ Fr [(0, .pointer (some ⟨C, 1, none⟩)), (3, .int .u8 i)] ρ ∧ Ext w w') n ?_ ?_
      · exact ⟨0, by omega, ⟨rfl, rfl, trivial⟩, (by repeat (first | assumption | exact Ext.refl _ | refine Ext.alloc ?_ _ | refine Ext.drew ?_ | refine Ext.setB ?_ (by first | omega | (simp only [size_alloc, size_setB, size_drew]; omega)) _ | refine Ext.trans ?_ (by assumption)))⟩
      intro k ρ w2 hI
      obtain ⟨i, hik, hFr2, hE2⟩ := hI
      refine W_env _ hFr2 ?_
      have hz2 := hE2.1
      refine W_seq ?_
      refine W_seq ?_
      refine W_region rfl ?_
      refine WO_p (PS_move_int rfl) ?_
      refine WO_p (PS_move_ptr rfl) ?_
      refine WO_p (PS_nilCheck rfl) ?_
      refine WO_p (PS_fieldAddr 9 Hvad.runUnderlying57 rfl Hvad.sizeOf5 rfl rfl) ?_
      refine WO_load (.int _ _) Hvad.isAgg5 rfl (Hb.h (by repeat (first | assumption | exact Hb.newY _ _ | refine Hb.alloc ?_ | refine Hb.drew ?_ | refine Hb.ext (by assumption) ?_ | exact Hb.setSameL (by first | omega | (simp only [size_alloc, size_setB, size_drew]; omega)) | exact Hb.setSame (by assumption) | refine Hb.set (by first | omega | (simp only [size_alloc, size_setB, size_drew]; omega)) ?_ ))) (Ce.h (by first | assumption | exact ⟨rfl⟩)) ?_
      refine WO_p (PS_lss rfl rfl) ?_
      refine WO_nil ?_
      refine thn_normal ?_
      refine W_if rfl (fun hb8 => ?_) (fun hb8 => ?_)
      · have hb8p := hb8.h; try simp only [al_ete, al_dfn, Bool.not_eq_true', Bool.not_eq_false', al_ne, Bool.not_not, al_nn] at hb8p
        obtain ⟨x, y, hx, hy, hsz, hxy⟩ := hk.base hM.ty (i := i) (by omega)
        have hbs := hk.bs i (by omega)
        have hbx := (hM.openB hx).1
        have hby := (hM.openB hy).1
        have hbx2 := (hM.openB hx).2
        have hby2 := (hM.openB hy).2
        refine W_skip ?_
        refine thn_normal ?_
        refine W_seq ?_
        refine W_block ?_
        refine W_seq ?_
        refine W_seq ?_
        refine W_drawE [false, false, false, false, false, false, false, false, false, false, false, false, false, false] hmix (by kernel_rfl) rfl ?_
        refine WH_p (PS_move_ptr rfl) rfl ?_
        refine WH_p (PS_move_int rfl) rfl ?_
        refine WH_p (PS_nilCheck rfl) rfl ?_
        refine WH_p (PS_fieldAddr 1 Hvad.runUnderlying57 rfl Hvad.sizeOf55 rfl rfl) rfl ?_
        refine WH_p (PS_indexA Hvad.runUnderlying55 Hvad.sizeOf54 rfl rfl (by omega) (by omega)) rfl ?_
        rw [show ((i : Int)).toNat = i by omega]
        refine WH_load (.int _ _) Hvad.isAgg54 rfl (Hb.h (by repeat (first | assumption | exact Hb.newY _ _ | refine Hb.alloc ?_ | refine Hb.drew ?_ | refine Hb.ext (by assumption) ?_ | exact Hb.setSameL (by first | omega | (simp only [size_alloc, size_setB, size_drew]; omega)) | exact Hb.setSame (by assumption) | refine Hb.set (by first | omega | (simp only [size_alloc, size_setB, size_drew]; omega)) ?_ ))) (Ce.h (by first | assumption | exact ⟨rfl⟩)) ?_
        refine WH_p (PS_move_ptr rfl) rfl ?_
        refine WH_p (PS_move_int rfl) rfl ?_
        refine WH_p (PS_add_u8n rfl rfl (by omega) (by omega)) rfl ?_
        refine WH_p (PS_nilCheck rfl) rfl ?_
        refine WH_p (PS_fieldAddr 1 Hvad.runUnderlying57 rfl Hvad.sizeOf55 rfl rfl) rfl ?_
        refine WH_p (PS_indexA Hvad.runUnderlying55 Hvad.sizeOf54 rfl rfl (by omega) (by omega)) rfl ?_
        rw [show ((i : Int) + 1).toNat = i + 1 by omega]
        refine WH_load (.int _ _) Hvad.isAgg54 rfl (Hb.h (by repeat (first | assumption | exact Hb.newY _ _ | refine Hb.alloc ?_ | refine Hb.drew ?_ | refine Hb.ext (by assumption) ?_ | exact Hb.setSameL (by first | omega | (simp only [size_alloc, size_setB, size_drew]; omega)) | exact Hb.setSame (by assumption) | refine Hb.set (by first | omega | (simp only [size_alloc, size_setB, size_drew]; omega)) ?_ ))) (Ce.h (by first | assumption | exact ⟨rfl⟩)) ?_
        refine WH_p (PS_gtr rfl rfl) rfl ?_
        refine WH_nil ?_
        refine thn_normal ?_
        refine W_if rfl (fun hb10 => ?_) (fun hb10 => ?_)
        · have hb10p := hb10.h; try simp only [al_ete, al_dfn, Bool.not_eq_true', Bool.not_eq_false', al_ne, Bool.not_not, al_nn] at hb10p
          (exfalso; omega) --END
        · have hb10p := hb10.h; try simp only [al_ete, al_dfn, Bool.not_eq_true', Bool.not_eq_false', al_ne, Bool.not_not, al_nn] at hb10p
          refine W_skip ?_
          refine thn_normal ?_
          refine W_seq ?_
          refine W_drawE [false, false, false, false, false, false, false, false, false, false, false, false, false, false, false] hmix (by kernel_rfl) rfl ?_
          refine WH_p (PS_move_ptr rfl) rfl ?_
          refine WH_p (PS_move_int rfl) rfl ?_
          refine WH_p (PS_add_u8n rfl rfl (by omega) (by omega)) rfl ?_
          refine WH_p (PS_nilCheck rfl) rfl ?_
          refine WH_p (PS_fieldAddr 1 Hvad.runUnderlying57 rfl Hvad.sizeOf55 rfl rfl) rfl ?_
          refine WH_p (PS_indexA Hvad.runUnderlying55 Hvad.sizeOf54 rfl rfl (by omega) (by omega)) rfl ?_
          rw [show ((i : Int) + 1).toNat = i + 1 by omega]
          refine WH_load (.int _ _) Hvad.isAgg54 rfl (Hb.h (by repeat (first | assumption | exact Hb.newY _ _ | refine Hb.alloc ?_ | refine Hb.drew ?_ | refine Hb.ext (by assumption) ?_ | exact Hb.setSameL (by first | omega | (simp only [size_alloc, size_setB, size_drew]; omega)) | exact Hb.setSame (by assumption) | refine Hb.set (by first | omega | (simp only [size_alloc, size_setB, size_drew]; omega)) ?_ ))) (Ce.h (by first | assumption | exact ⟨rfl⟩)) ?_
          refine WH_p (PS_move_ptr rfl) rfl ?_
          refine WH_p (PS_move_int rfl) rfl ?_
          refine WH_p (PS_nilCheck rfl) rfl ?_
          refine WH_p (PS_fieldAddr 1 Hvad.runUnderlying57 rfl Hvad.sizeOf55 rfl rfl) rfl ?_
          refine WH_p (PS_indexA Hvad.runUnderlying55 Hvad.sizeOf54 rfl rfl (by omega) (by omega)) rfl ?_
          rw [show ((i : Int)).toNat = i by omega]
          refine WH_load (.int _ _) Hvad.isAgg54 rfl (Hb.h (by repeat (first | assumption | exact Hb.newY _ _ | refine Hb.alloc ?_ | refine Hb.drew ?_ | refine Hb.ext (by assumption) ?_ | exact Hb.setSameL (by first | omega | (simp only [size_alloc, size_setB, size_drew]; omega)) | exact Hb.setSame (by assumption) | refine Hb.set (by first | omega | (simp only [size_alloc, size_setB, size_drew]; omega)) ?_ ))) (Ce.h (by first | assumption | exact ⟨rfl⟩)) ?_
          refine WH_p (PS_sub_u32n rfl rfl (by omega) (by omega)) rfl ?_
          refine WH_p (PS_assign_int rfl) rfl ?_
          refine WH_nil ?_
          refine thn_normal ?_
          refine W_seq ?_
          refine W_region rfl ?_
          refine WO_p (PS_move_int rfl) ?_
          refine WO_p (PS_rem_u32 rfl rfl (by omega) (by omega)) ?_
          refine WO_p (PS_neq rfl rfl) ?_
          refine WO_p (PS_move_bool rfl) ?_
          refine WO_if (t := 55) rfl (fun hb12 => ?_) (fun hb12 => ?_)
          · have hb12p := hb12.h; try simp only [al_ete, al_dfn, Bool.not_eq_true', Bool.not_eq_false', al_ne, Bool.not_not, al_nn] at hb12p
            (exfalso; omega) --END
          · have hb12p := hb12.h; try simp only [al_ete, al_dfn, Bool.not_eq_true', Bool.not_eq_false', al_ne, Bool.not_not, al_nn] at hb12p
            refine WO_guardT rfl rfl hb12.h ?_
            refine WO_p (PS_move_int rfl) ?_
            refine WO_guardT rfl rfl hb12.h ?_
            refine WO_p (PS_gtr rfl rfl) ?_
            refine WO_p (PS_pickF rfl hb12.h rfl) ?_
            refine WO_nil ?_
            refine thn_normal ?_
            refine W_if rfl (fun hb14 => ?_) (fun hb14 => ?_)
            · have hb14p := hb14.h; try simp only [al_ete, al_dfn, Bool.not_eq_true', Bool.not_eq_false', al_ne, Bool.not_not, al_nn] at hb14p
              (exfalso; omega) --END
            · have hb14p := hb14.h; try simp only [al_ete, al_dfn, Bool.not_eq_true', Bool.not_eq_false', al_ne, Bool.not_not, al_nn] at hb14p
              refine W_skip ?_
              refine inBlk_normal ?_
              refine thn_normal ?_
              refine W_region rfl ?_
              refine WO_p (PS_move_int rfl) ?_
              refine WO_p (PS_add_u8n rfl rfl (by omega) (by omega)) ?_
              refine WO_p (PS_assign_int rfl) ?_
              refine WO_nil ?_
              refine thn_normal ?_
              exact ⟨k - 1, by omega, i + 1, by omega, ⟨rfl, congrArg (Value.int .u8) (by omega), trivial⟩, (by repeat (first | assumption | exact Ext.refl _ | refine Ext.alloc ?_ _ | refine Ext.drew ?_ | refine Ext.setB ?_ (by first | omega | (simp only [size_alloc, size_setB, size_drew]; omega)) _ | exact Ext.trans (by assumption) (by assumption) | refine Ext.trans ?_ (by assumption)))⟩
      · have hb8p := hb8.h; try simp only [al_ete, al_dfn, Bool.not_eq_true', Bool.not_eq_false', al_ne, Bool.not_not, al_nn] at hb8p
        refine W_exit ?_
        refine thn_exit ?_
        refine thn_exit ?_
        refine inBlk_exit ?_
        refine thn_normal ?_
        refine W_seq ?_
        refine W_region rfl ?_
        refine WO_p (PS_assign_bool rfl) ?_
        refine WO_nil ?_
        refine thn_normal ?_
        refine W_ret ?_
        refine bodyQ_ret1 Hvad.results271 rfl (.bool _) rfl ?_
        exact ⟨rfl, (by repeat (first | assumption | exact Ext.refl _ | refine Ext.alloc ?_ _ | refine Ext.drew ?_ | refine Ext.setB ?_ (by first | omega | (simp only [size_alloc, size_setB, size_drew]; omega)) _ | refine Ext.trans ?_ (by assumption)))⟩

set_option maxRecDepth 10000 in
set_option maxHeartbeats 4000000 in
theorem memCheck3_spec (C : Nat) (c : Array Value) (v : V) (B : VB) (m : Mc) (n : Nat) (S : Int) (w : World) (hM : MS w C c v B m) (hk : Ck v m n S) : Ret Hvad.prog 226 #[.pointer (some ⟨C, 1, none⟩)] w fun u w' => u = .bool true ∧ Ext w w' := by
  have hblk := hM.vs.blk
  have hcs := hM.sz
  have hc_mt := hM.rep.mtop
  rw [hk.mtY] at hc_mt
  have hn7 := hk.n7
  have hb0 := (hM.openB hk.b0).1
  have hc_buf := hM.rep.buf
  have hbl := hk.bl
  obtain ⟨x, hx⟩ : ∃ x, m.base[n]? = some x := ⟨_, List.getElem?_eq_getElem (by rw [hM.ty.base.1]; omega)⟩
  have hbx := (hM.openB hx).1
  have hbx2 := (hM.openB hx).2
  have hxb : x ≤ m.buf.2.1 := by
    rcases Nat.eq_zero_or_pos n with h0 | h0
    · subst h0; rw [hk.b0] at hx; injection hx with hx; omega
    · have := hk.bt h0; rw [baseOf_some hx] at this; exact this
  refine Ret_of_W Hvad.func226 rfl rfl ?_
  refine W_seq ?_
  refine W_region rfl ?_
  refine WO_p (PS_assign_bool rfl) ?_
  refine WO_nil ?_
  refine thn_normal ?_
  refine W_seq ?_
  refine W_drawE [false, true, false, false, false, false, false, false, false, false, false, false, false, false, false, false, false, false, false, false, false, false, false, false, false, false, false, false, false, false] hmix (by kernel_rfl) rfl ?_
  refine WH_p (PS_move_ptr rfl) rfl ?_
  refine WH_call Hvad.call271 (by rfl) (Ret.mono (memCheck2_spec C c v B m n S _ (MS.ext hM (by repeat (first | assumption | exact Ext.refl _ | refine Ext.alloc ?_ _ | refine Ext.drew ?_ | refine Ext.setB ?_ (by first | omega | (simp only [size_alloc, size_setB, size_drew]; omega)) _ | exact Ext.trans (by assumption) (by assumption) | refine Ext.trans ?_ (by assumption)))) hk) ?_)
  rintro _ w271_0 ⟨rfl, hE271_0⟩
  refine ⟨fun _ => (by repeat (first | assumption | exact Ext.refl _ | refine Ext.alloc ?_ _ | refine Ext.drew ?_ | refine Ext.setB ?_ (by first | omega | (simp only [size_alloc, size_setB, size_drew]; omega)) _ | exact Ext.trans (by assumption) (by assumption) | refine Ext.trans ?_ (by assumption))), ?_⟩
  have hz271_0 := hE271_0.1
  try simp only [size_alloc, size_setB, size_drew] at hz271_0
  refine WH_p (PS_move_bool rfl) rfl ?_
  refine WH_if (t := 5) rfl (fun hb3 => ?_) (fun hb3 => ?_)
  · have hb3p := hb3.h; try simp only [al_ete, al_dfn, Bool.not_eq_true', Bool.not_eq_false', al_ne, Bool.not_not, al_nn] at hb3p
    refine WH_guardT rfl rfl hb3.h ?_
    refine WH_p (PS_move_ptr rfl) rfl ?_
    refine WH_guardT rfl rfl hb3.h ?_
    refine WH_p (PS_move_ptr rfl) rfl ?_
    refine WH_guardT rfl rfl hb3.h ?_
    refine WH_p (PS_nilCheck rfl) rfl ?_
    refine WH_guardT rfl rfl hb3.h ?_
    refine WH_p (PS_fieldAddr 9 Hvad.runUnderlying57 rfl Hvad.sizeOf5 rfl rfl) rfl ?_
    refine WH_guardT rfl rfl hb3.h ?_
    refine WH_load (.int _ _) Hvad.isAgg5 rfl (Hb.h (by repeat (first | assumption | exact Hb.newY _ _ | refine Hb.alloc ?_ | refine Hb.drew ?_ | refine Hb.ext (by assumption) ?_ | exact Hb.setSameL (by first | omega | (simp only [size_alloc, size_setB, size_drew]; omega)) | exact Hb.setSame (by assumption) | refine Hb.set (by first | omega | (simp only [size_alloc, size_setB, size_drew]; omega)) ?_ ))) (Ce.h (by first | assumption | exact ⟨rfl⟩)) ?_
    refine WH_guardT rfl rfl hb3.h ?_
    refine WH_p (PS_nilCheck rfl) rfl ?_
    refine WH_guardT rfl rfl hb3.h ?_
    refine WH_p (PS_fieldAddr 1 Hvad.runUnderlying57 rfl Hvad.sizeOf55 rfl rfl) rfl ?_
    refine WH_guardT rfl rfl hb3.h ?_
    refine WH_p (PS_indexA Hvad.runUnderlying55 Hvad.sizeOf54 rfl rfl (by omega) (by omega)) rfl ?_
    rw [show ((n : Int)).toNat = n by omega]
    refine WH_guardT rfl rfl hb3.h ?_
    refine WH_load (.int _ _) Hvad.isAgg54 rfl (Hb.h (by repeat (first | assumption | exact Hb.newY _ _ | refine Hb.alloc ?_ | refine Hb.drew ?_ | refine Hb.ext (by assumption) ?_ | exact Hb.setSameL (by first | omega | (simp only [size_alloc, size_setB, size_drew]; omega)) | exact Hb.setSame (by assumption) | refine Hb.set (by first | omega | (simp only [size_alloc, size_setB, size_drew]; omega)) ?_ ))) (Ce.h (by first | assumption | exact ⟨rfl⟩)) ?_
    refine WH_guardT rfl rfl hb3.h ?_
    refine WH_p (PS_conv_u64n Hvad.runUnderlying54 Hvad.runUnderlying26 rfl (by omega) (by omega)) rfl ?_
    refine WH_guardT rfl rfl hb3.h ?_
    refine WH_p (PS_move_ptr rfl) rfl ?_
    refine WH_guardT rfl rfl hb3.h ?_
    refine WH_p (PS_nilCheck rfl) rfl ?_
    refine WH_guardT rfl rfl hb3.h ?_
    refine WH_p (PS_fieldAddr 0 Hvad.runUnderlying57 rfl Hvad.sizeOf32 rfl rfl) rfl ?_
    refine WH_guardT rfl rfl hb3.h ?_
    refine WH_load (.slice _ _ _) Hvad.isAgg32 rfl (Hb.h (by repeat (first | assumption | exact Hb.newY _ _ | refine Hb.alloc ?_ | refine Hb.drew ?_ | refine Hb.ext (by assumption) ?_ | exact Hb.setSameL (by first | omega | (simp only [size_alloc, size_setB, size_drew]; omega)) | exact Hb.setSame (by assumption) | refine Hb.set (by first | omega | (simp only [size_alloc, size_setB, size_drew]; omega)) ?_ ))) (Ce.h (by first | assumption | exact ⟨rfl⟩)) ?_
    refine WH_guardT rfl rfl hb3.h ?_
    refine WH_p (PS_lenS Hvad.runUnderlying32 rfl) rfl ?_
    refine WH_guardT rfl rfl hb3.h ?_
    refine WH_p (PS_conv_u64n Hvad.runUnderlying3 Hvad.runUnderlying26 rfl (by omega) (by omega)) rfl ?_
    refine WH_guardT rfl rfl hb3.h ?_
    refine WH_p (PS_leq rfl rfl) rfl ?_
    refine WH_p (PS_pickT rfl hb3.h rfl) rfl ?_
    refine WH_p (PS_move_bool rfl) rfl ?_
    refine WH_if (t := 24) rfl (fun hb5 => ?_) (fun hb5 => ?_)
    · have hb5p := hb5.h; try simp only [al_ete, al_dfn, Bool.not_eq_true', Bool.not_eq_false', al_ne, Bool.not_not, al_nn] at hb5p
      refine WH_guardT rfl rfl hb5.h ?_
      refine WH_p (PS_move_ptr rfl) rfl ?_
      refine WH_guardT rfl rfl hb5.h ?_
      refine WH_p (PS_nilCheck rfl) rfl ?_
      refine WH_guardT rfl rfl hb5.h ?_
      refine WH_p (PS_fieldAddr 0 Hvad.runUnderlying57 rfl Hvad.sizeOf32 rfl rfl) rfl ?_
      refine WH_guardT rfl rfl hb5.h ?_
      refine WH_load (.slice _ _ _) Hvad.isAgg32 rfl (Hb.h (by repeat (first | assumption | exact Hb.newY _ _ | refine Hb.alloc ?_ | refine Hb.drew ?_ | refine Hb.ext (by assumption) ?_ | exact Hb.setSameL (by first | omega | (simp only [size_alloc, size_setB, size_drew]; omega)) | exact Hb.setSame (by assumption) | refine Hb.set (by first | omega | (simp only [size_alloc, size_setB, size_drew]; omega)) ?_ ))) (Ce.h (by first | assumption | exact ⟨rfl⟩)) ?_
      refine WH_guardT rfl rfl hb5.h ?_
      refine WH_p (PS_lenS Hvad.runUnderlying32 rfl) rfl ?_
      refine WH_guardT rfl rfl hb5.h ?_
      refine WH_p (PS_leq rfl rfl) rfl ?_
      refine WH_p (PS_pickT rfl hb5.h rfl) rfl ?_
      refine WH_p (PS_assign_bool rfl) rfl ?_
      refine WH_nil ?_
      refine thn_normal ?_
      refine W_ret ?_
      refine bodyQ_ret1 Hvad.results226 rfl (.bool _) rfl ?_
      exact ⟨congrArg Value.bool (by simp <;> omega), (by repeat (first | assumption | exact Ext.refl _ | refine Ext.alloc ?_ _ | refine Ext.drew ?_ | refine Ext.setB ?_ (by first | omega | (simp only [size_alloc, size_setB, size_drew]; omega)) _ | refine Ext.trans ?_ (by assumption)))⟩
    · have hb5p := hb5.h; try simp only [al_ete, al_dfn, Bool.not_eq_true', Bool.not_eq_false', al_ne, Bool.not_not, al_nn] at hb5p
      (exfalso; omega) --END
  · have hb3p := hb3.h; try simp only [al_ete, al_dfn, Bool.not_eq_true', Bool.not_eq_false', al_ne, Bool.not_not, al_nn] at hb3p
    simp at hb3p --END

set_option maxRecDepth 10000 in
theorem memCheck_spec (C : Nat) (c : Array Value) (v : V) (B : VB) (m : Mc) (n : Nat) (S : Int) (w : World) (hM : MS w C c v B m) (hk : Ck v m n S) : Ret Hvad.prog 134 #[.pointer (some ⟨C, 1, none⟩)] w fun u w' => u = .bool true ∧ Ext w w' := by
  refine Ret_of_W Hvad.func134 rfl rfl ?_
  refine W_seq ?_
  refine W_region rfl ?_
  refine WO_p (PS_assign_bool rfl) ?_
  refine WO_nil ?_
  refine thn_normal ?_
  refine W_seq ?_
  refine W_region rfl ?_
  refine WO_p (PS_move_ptr rfl) ?_
  refine WO_call Hvad.call226 (by rfl) (Ret.mono (memCheck3_spec C c v B m n S _ (MS.ext hM (by repeat (first | assumption | exact Ext.refl _ | refine Ext.alloc ?_ _ | refine Ext.drew ?_ | refine Ext.setB ?_ (by first | omega | (simp only [size_alloc, size_setB, size_drew]; omega)) _ | exact Ext.trans (by assumption) (by assumption) | refine Ext.trans ?_ (by assumption)))) hk) ?_)
  rintro _ w226_0 ⟨rfl, hE226_0⟩
  have hz226_0 := hE226_0.1
  try simp only [size_alloc, size_setB, size_drew] at hz226_0
  refine WO_p (PS_assign_bool rfl) ?_
  refine WO_nil ?_
  refine thn_normal ?_
  refine W_ret ?_
  refine bodyQ_ret1 Hvad.results134 rfl (.bool _) rfl ?_
  exact ⟨rfl, (by repeat (first | assumption | exact Ext.refl _ | refine Ext.alloc ?_ _ | refine Ext.drew ?_ | refine Ext.setB ?_ (by first | omega | (simp only [size_alloc, size_setB, size_drew]; omega)) _ | refine Ext.trans ?_ (by assumption)))⟩

set_option maxRecDepth 10000 in
set_option maxHeartbeats 4000000 in
theorem idleOK_spec (C : Nat) (c : Array Value) (v : V) (B : VB) (m : Mc) (n : Nat) (S : Int) (w : World) (hM : MS w C c v B m) (hk : Ck v m n S) (hp0 : m.phase = 0) : Ret Hvad.prog 136 #[.pointer (some ⟨C, 0, none⟩)] w fun u w' => u = .bool true ∧ Ext w w' := by
  have hblk := hM.vs.blk
  have hCl := hblk.lt
  have hcs := hM.sz
  have hc_s := hM.rep.s
  have hc_top := hM.rep.top
  rw [hk.top] at hc_top
  have hc_phase := hM.rep.phase
  have hn7 := hk.n7
  have hph := hk.ph
  have hpt := hM.ty.phase
  have hc_journal : Ce c (2435 + 8194) (.slice (slp B.j) v.journal.length (slc B.j)) := hM.vs.rep.journal
  have hc_logs : Ce c (2435 + 24581) (.slice (slp B.l) v.logs.length (slc B.l)) := hM.vs.rep.logs
  have hc_temps : Ce c (2435 + 24582) (.slice (slp B.t) v.temps.length (slc B.t)) := hM.vs.rep.temps
  have hc_accts : Ce c (2435 + 0) (.slice (slp B.a) v.accts.length (slc B.a)) := hM.vs.rep.accts
  have hc_slots : Ce c (2435 + 1) (.slice (slp B.s) v.slots.length (slc B.s)) := hM.vs.rep.slots
  have hc_nm : Ce c (2435 + 24579) (.int .i32 v.nmarks) := hM.vs.rep.nmarks
  have hc_ref : Ce c (2435 + 24580) (.int .u64 v.ref) := hM.vs.rep.ref
  have hi := hk.id0 hp0
  have hla := hM.vs.ty.la
  have hls := hM.vs.ty.ls
  have hc_lim := hM.rep.limit
  have hc_tx := hM.rep.txgas
  have hc_price := hM.rep.price
  have hc_held := hM.rep.held
  have hc_ret := hM.rep.ret
  have hc_or := hM.rep.origin
  have hc_made := hM.rep.made
  rw [hi.lm] at hc_lim
  rw [hi.tx] at hc_tx
  rw [hi.pr] at hc_price
  rw [hi.hd] at hc_held
  rw [hi.rt] at hc_ret
  rw [hi.og] at hc_or
  rw [hi.md] at hc_made
  rw [hi.jl] at hc_journal
  rw [hi.lg] at hc_logs
  rw [hi.tp] at hc_temps
  rw [hi.nm] at hc_nm
  rw [hi.rf] at hc_ref
  refine Ret_of_W Hvad.func136 rfl rfl ?_
  refine W_seq ?_
  refine W_region rfl ?_
  refine WO_p (PS_assign_bool rfl) ?_
  refine WO_nil ?_
  refine thn_normal ?_
  refine W_seq ?_
  refine W_seq ?_
  refine W_region rfl ?_
  refine WO_p (PS_move_ptr rfl) ?_
  refine WO_p (PS_nilCheck rfl) ?_
  refine WO_p (PS_fieldAddr 2407 Hvad.runUnderlying69 rfl Hvad.sizeOf26 rfl rfl) ?_
  refine WO_load (.int _ _) Hvad.isAgg26 rfl (Hb.h (by repeat (first | assumption | exact Hb.newY _ _ | refine Hb.alloc ?_ | refine Hb.drew ?_ | refine Hb.ext (by assumption) ?_ | exact Hb.setSameL (by first | omega | (simp only [size_alloc, size_setB, size_drew]; omega)) | exact Hb.setSame (by assumption) | refine Hb.set (by first | omega | (simp only [size_alloc, size_setB, size_drew]; omega)) ?_ ))) (Ce.h (by first | assumption | exact ⟨rfl⟩)) ?_
  refine WO_p (PS_neq rfl rfl) ?_
  refine WO_p (PS_move_bool rfl) ?_
  refine WO_if (t := 10) rfl (fun hb2 => ?_) (fun hb2 => ?_)
  · have hb2p := hb2.h; try simp only [al_ete, al_dfn, Bool.not_eq_true', Bool.not_eq_false', al_ne, Bool.not_not, al_nn] at hb2p
    simp at hb2p --END
  · have hb2p := hb2.h; try simp only [al_ete, al_dfn, Bool.not_eq_true', Bool.not_eq_false', al_ne, Bool.not_not, al_nn] at hb2p
    refine WO_guardT rfl rfl hb2.h ?_
    refine WO_p (PS_move_ptr rfl) ?_
    refine WO_guardT rfl rfl hb2.h ?_
    refine WO_p (PS_nilCheck rfl) ?_
    refine WO_guardT rfl rfl hb2.h ?_
    refine WO_p (PS_fieldAddr 2408 Hvad.runUnderlying69 rfl Hvad.sizeOf26 rfl rfl) ?_
    refine WO_guardT rfl rfl hb2.h ?_
    refine WO_load (.int _ _) Hvad.isAgg26 rfl (Hb.h (by repeat (first | assumption | exact Hb.newY _ _ | refine Hb.alloc ?_ | refine Hb.drew ?_ | refine Hb.ext (by assumption) ?_ | exact Hb.setSameL (by first | omega | (simp only [size_alloc, size_setB, size_drew]; omega)) | exact Hb.setSame (by assumption) | refine Hb.set (by first | omega | (simp only [size_alloc, size_setB, size_drew]; omega)) ?_ ))) (Ce.h (by first | assumption | exact ⟨rfl⟩)) ?_
    refine WO_guardT rfl rfl hb2.h ?_
    refine WO_p (PS_neq rfl rfl) ?_
    refine WO_p (PS_pickF rfl hb2.h rfl) ?_
    refine WO_p (PS_move_bool rfl) ?_
    refine WO_if (t := 17) rfl (fun hb4 => ?_) (fun hb4 => ?_)
    · have hb4p := hb4.h; try simp only [al_ete, al_dfn, Bool.not_eq_true', Bool.not_eq_false', al_ne, Bool.not_not, al_nn] at hb4p
      simp at hb4p --END
    · have hb4p := hb4.h; try simp only [al_ete, al_dfn, Bool.not_eq_true', Bool.not_eq_false', al_ne, Bool.not_not, al_nn] at hb4p
      refine WO_guardT rfl rfl hb4.h ?_
      refine WO_p (PS_move_ptr rfl) ?_
      refine WO_guardT rfl rfl hb4.h ?_
      refine WO_p (PS_nilCheck rfl) ?_
      refine WO_guardT rfl rfl hb4.h ?_
      refine WO_p (PS_fieldAddr 2409 Hvad.runUnderlying69 rfl Hvad.sizeOf59 rfl rfl) ?_
      refine WO_guardT rfl rfl hb4.h ?_
      refine WO_loadA _ Hvad.isAgg59 Hvad.sizeOf59 rfl (Hb.h (by repeat (first | assumption | exact Hb.newY _ _ | refine Hb.alloc ?_ | refine Hb.drew ?_ | refine Hb.ext (by assumption) ?_ | exact Hb.setSameL (by first | omega | (simp only [size_alloc, size_setB, size_drew]; omega)) | exact Hb.setSame (by assumption) | refine Hb.set (by first | omega | (simp only [size_alloc, size_setB, size_drew]; omega)) ?_ ))) (by first | omega | assumption | rfl | decide | exact Nat.le_refl _ | (simp only [size_ic, Value.cells]; omega) | simp) (Xt.h (by first | assumption | exact Xt.whole rfl rfl | exact Xt.whole rfl (by simp only [size_ic, Value.cells]; omega) | exact ⟨rfl⟩)) ?_
      refine WO_guardT rfl rfl hb4.h ?_
      refine WO_call Hvad.call131 (by rfl) (Ret.mono (isz_spec _ _ Wd0) ?_)
      rintro _ w131_4 ⟨rfl, hE131_4⟩
      have hz131_4 := hE131_4.1
      try simp only [size_alloc, size_setB, size_drew] at hz131_4
      refine WO_guardT rfl rfl hb4.h ?_
      refine WO_p (PS_not rfl) ?_
      refine WO_p (PS_pickF rfl hb4.h rfl) ?_
      refine WO_p (PS_move_bool rfl) ?_
      refine WO_if (t := 25) rfl (fun hb8 => ?_) (fun hb8 => ?_)
      · have hb8p := hb8.h; try simp only [al_ete, al_dfn, Bool.not_eq_true', Bool.not_eq_false', al_ne, Bool.not_not, al_nn] at hb8p
        (exfalso; revert hb8p; decide) --END
      · have hb8p := hb8.h; try simp only [al_ete, al_dfn, Bool.not_eq_true', Bool.not_eq_false', al_ne, Bool.not_not, al_nn] at hb8p
        refine WO_guardT rfl rfl hb8.h ?_
        refine WO_p (PS_move_ptr rfl) ?_
        refine WO_guardT rfl rfl hb8.h ?_
        refine WO_p (PS_nilCheck rfl) ?_
        refine WO_guardT rfl rfl hb8.h ?_
        refine WO_p (PS_fieldAddr 2400 Hvad.runUnderlying69 rfl Hvad.sizeOf59 rfl rfl) ?_
        refine WO_guardT rfl rfl hb8.h ?_
        refine WO_loadA _ Hvad.isAgg59 Hvad.sizeOf59 rfl (Hb.h (by repeat (first | assumption | exact Hb.newY _ _ | refine Hb.alloc ?_ | refine Hb.drew ?_ | refine Hb.ext (by assumption) ?_ | exact Hb.setSameL (by first | omega | (simp only [size_alloc, size_setB, size_drew]; omega)) | exact Hb.setSame (by assumption) | refine Hb.set (by first | omega | (simp only [size_alloc, size_setB, size_drew]; omega)) ?_ ))) (by first | omega | assumption | rfl | decide | exact Nat.le_refl _ | (simp only [size_ic, Value.cells]; omega) | simp) (Xt.h (by first | assumption | exact Xt.whole rfl rfl | exact Xt.whole rfl (by simp only [size_ic, Value.cells]; omega) | exact ⟨rfl⟩)) ?_
        refine WO_guardT rfl rfl hb8.h ?_
        refine WO_call Hvad.call131 (by rfl) (Ret.mono (isz_spec _ _ Wd0) ?_)
        rintro _ w131_8 ⟨rfl, hE131_8⟩
        have hz131_8 := hE131_8.1
        try simp only [size_alloc, size_setB, size_drew] at hz131_8
        refine WO_guardT rfl rfl hb8.h ?_
        refine WO_p (PS_not rfl) ?_
        refine WO_p (PS_pickF rfl hb8.h rfl) ?_
        refine WO_p (PS_move_bool rfl) ?_
        refine WO_if (t := 33) rfl (fun hb12 => ?_) (fun hb12 => ?_)
        · have hb12p := hb12.h; try simp only [al_ete, al_dfn, Bool.not_eq_true', Bool.not_eq_false', al_ne, Bool.not_not, al_nn] at hb12p
          (exfalso; revert hb12p; decide) --END
        · have hb12p := hb12.h; try simp only [al_ete, al_dfn, Bool.not_eq_true', Bool.not_eq_false', al_ne, Bool.not_not, al_nn] at hb12p
          refine WO_guardT rfl rfl hb12.h ?_
          refine WO_p (PS_move_ptr rfl) ?_
          refine WO_guardT rfl rfl hb12.h ?_
          refine WO_p (PS_nilCheck rfl) ?_
          refine WO_guardT rfl rfl hb12.h ?_
          refine WO_p (PS_fieldAddr 2259 Hvad.runUnderlying69 rfl Hvad.sizeOf32 rfl rfl) ?_
          refine WO_guardT rfl rfl hb12.h ?_
          refine WO_load (.slice _ _ _) Hvad.isAgg32 rfl (Hb.h (by repeat (first | assumption | exact Hb.newY _ _ | refine Hb.alloc ?_ | refine Hb.drew ?_ | refine Hb.ext (by assumption) ?_ | exact Hb.setSameL (by first | omega | (simp only [size_alloc, size_setB, size_drew]; omega)) | exact Hb.setSame (by assumption) | refine Hb.set (by first | omega | (simp only [size_alloc, size_setB, size_drew]; omega)) ?_ ))) (Ce.h (by first | assumption | exact ⟨rfl⟩)) ?_
          refine WO_guardT rfl rfl hb12.h ?_
          refine WO_p (PS_neqslnil Hvad.underlying32 rfl) ?_
          refine WO_p (PS_pickF rfl hb12.h rfl) ?_
          refine WO_nil ?_
          refine thn_normal ?_
          refine W_if rfl (fun hb14 => ?_) (fun hb14 => ?_)
          · have hb14p := hb14.h; try simp only [al_ete, al_dfn, Bool.not_eq_true', Bool.not_eq_false', al_ne, Bool.not_not, al_nn] at hb14p
            simp at hb14p --END
          · have hb14p := hb14.h; try simp only [al_ete, al_dfn, Bool.not_eq_true', Bool.not_eq_false', al_ne, Bool.not_not, al_nn] at hb14p
            refine W_skip ?_
            refine thn_normal ?_
            refine W_seq ?_
            refine W_seq ?_
            refine W_region rfl ?_
            refine WO_p (PS_move_ptr rfl) ?_
            refine WO_p (PS_nilCheck rfl) ?_
            refine WO_p (PS_fieldAddr 2380 Hvad.runUnderlying69 rfl Hvad.sizeOf25 rfl rfl) ?_
            refine WO_loadA _ Hvad.isAgg25 Hvad.sizeOf25 rfl (Hb.h (by repeat (first | assumption | exact Hb.newY _ _ | refine Hb.alloc ?_ | refine Hb.drew ?_ | refine Hb.ext (by assumption) ?_ | exact Hb.setSameL (by first | omega | (simp only [size_alloc, size_setB, size_drew]; omega)) | exact Hb.setSame (by assumption) | refine Hb.set (by first | omega | (simp only [size_alloc, size_setB, size_drew]; omega)) ?_ ))) (by first | omega | assumption | rfl | decide | exact Nat.le_refl _ | (simp only [size_ic, Value.cells]; omega) | simp) (Xt.h (by first | assumption | exact Xt.whole rfl rfl | exact Xt.whole rfl (by simp only [size_ic, Value.cells]; omega) | exact ⟨rfl⟩)) ?_
            refine WO_p (PS_buildI (k := .u8) (zs := [0, 0, 0, 0, 0, 0, 0, 0, 0, 0, 0, 0, 0, 0, 0, 0, 0, 0, 0, 0]) (ps := []) (L := [0, 0, 0, 0, 0, 0, 0, 0, 0, 0, 0, 0, 0, 0, 0, 0, 0, 0, 0, 0]) Hvad.zeroValue25 Hvad.runUnderlying25 Hvad.sizeOf5 rfl rfl rfl rfl) ?_
            refine WO_p (PS_neqA Hvad.underlying25 Hvad.underlying5 Hvad.sizeOf5 Hvad.eqGuardType25 rfl rfl (by first | omega | assumption | rfl | decide | exact Nat.le_refl _ | (simp only [size_ic, Value.cells]; omega) | simp) (by first | omega | assumption | rfl | decide | exact Nat.le_refl _ | (simp only [size_ic, Value.cells]; omega) | simp)) ?_
            refine WO_p (PS_move_bool rfl) ?_
            refine WO_if (t := 46) rfl (fun hb16 => ?_) (fun hb16 => ?_)
            · have hb16p := hb16.h; try simp only [al_ete, al_dfn, Bool.not_eq_true', Bool.not_eq_false', al_ne, Bool.not_not, al_nn] at hb16p
              (exfalso; revert hb16p; decide) --END
            · have hb16p := hb16.h; try simp only [al_ete, al_dfn, Bool.not_eq_true', Bool.not_eq_false', al_ne, Bool.not_not, al_nn] at hb16p
              refine WO_guardT rfl rfl hb16.h ?_
              refine WO_p (PS_move_ptr rfl) ?_
              refine WO_guardT rfl rfl hb16.h ?_
              refine WO_p (PS_nilCheck rfl) ?_
              refine WO_guardT rfl rfl hb16.h ?_
              refine WO_p (PS_fieldAddr 2415 Hvad.runUnderlying69 rfl Hvad.sizeOf25 rfl rfl) ?_
              refine WO_guardT rfl rfl hb16.h ?_
              refine WO_loadA _ Hvad.isAgg25 Hvad.sizeOf25 rfl (Hb.h (by repeat (first | assumption | exact Hb.newY _ _ | refine Hb.alloc ?_ | refine Hb.drew ?_ | refine Hb.ext (by assumption) ?_ | exact Hb.setSameL (by first | omega | (simp only [size_alloc, size_setB, size_drew]; omega)) | exact Hb.setSame (by assumption) | refine Hb.set (by first | omega | (simp only [size_alloc, size_setB, size_drew]; omega)) ?_ ))) (by first | omega | assumption | rfl | decide | exact Nat.le_refl _ | (simp only [size_ic, Value.cells]; omega) | simp) (Xt.h (by first | assumption | exact Xt.whole rfl rfl | exact Xt.whole rfl (by simp only [size_ic, Value.cells]; omega) | exact ⟨rfl⟩)) ?_
              refine WO_guardT rfl rfl hb16.h ?_
              refine WO_p (PS_buildI (k := .u8) (zs := [0, 0, 0, 0, 0, 0, 0, 0, 0, 0, 0, 0, 0, 0, 0, 0, 0, 0, 0, 0]) (ps := []) (L := [0, 0, 0, 0, 0, 0, 0, 0, 0, 0, 0, 0, 0, 0, 0, 0, 0, 0, 0, 0]) Hvad.zeroValue25 Hvad.runUnderlying25 Hvad.sizeOf5 rfl rfl rfl rfl) ?_
              refine WO_guardT rfl rfl hb16.h ?_
              refine WO_p (PS_neqA Hvad.underlying25 Hvad.underlying5 Hvad.sizeOf5 Hvad.eqGuardType25 rfl rfl (by first | omega | assumption | rfl | decide | exact Nat.le_refl _ | (simp only [size_ic, Value.cells]; omega) | simp) (by first | omega | assumption | rfl | decide | exact Nat.le_refl _ | (simp only [size_ic, Value.cells]; omega) | simp)) ?_
              refine WO_p (PS_pickF rfl hb16.h rfl) ?_
              refine WO_nil ?_
              refine thn_normal ?_
              refine W_if rfl (fun hb18 => ?_) (fun hb18 => ?_)
              · have hb18p := hb18.h; try simp only [al_ete, al_dfn, Bool.not_eq_true', Bool.not_eq_false', al_ne, Bool.not_not, al_nn] at hb18p
                (exfalso; revert hb18p; decide) --END
              · have hb18p := hb18.h; try simp only [al_ete, al_dfn, Bool.not_eq_true', Bool.not_eq_false', al_ne, Bool.not_not, al_nn] at hb18p
                refine W_skip ?_
                refine thn_normal ?_
                refine W_seq ?_
                refine W_seq ?_
                refine W_region rfl ?_
                refine WO_p (PS_move_ptr rfl) ?_
                refine WO_p (PS_nilCheck rfl) ?_
                refine WO_p (PS_fieldAddr 0 Hvad.runUnderlying69 rfl Hvad.sizeOf53 rfl rfl) ?_
                refine WO_load (.pointer _) Hvad.isAgg53 rfl (Hb.h (by repeat (first | assumption | exact Hb.newY _ _ | refine Hb.alloc ?_ | refine Hb.drew ?_ | refine Hb.ext (by assumption) ?_ | exact Hb.setSameL (by first | omega | (simp only [size_alloc, size_setB, size_drew]; omega)) | exact Hb.setSame (by assumption) | refine Hb.set (by first | omega | (simp only [size_alloc, size_setB, size_drew]; omega)) ?_ ))) (Ce.h (by first | assumption | exact ⟨rfl⟩)) ?_
                refine WO_p (PS_nilCheck rfl) ?_
                refine WO_p (PS_fieldAddr 8194 Hvad.runUnderlying79 rfl Hvad.sizeOf73 rfl rfl) ?_
                refine WO_load (.slice _ _ _) Hvad.isAgg73 rfl (Hb.h (by repeat (first | assumption | exact Hb.newY _ _ | refine Hb.alloc ?_ | refine Hb.drew ?_ | refine Hb.ext (by assumption) ?_ | exact Hb.setSameL (by first | omega | (simp only [size_alloc, size_setB, size_drew]; omega)) | exact Hb.setSame (by assumption) | refine Hb.set (by first | omega | (simp only [size_alloc, size_setB, size_drew]; omega)) ?_ ))) (Ce.h (by first | assumption | exact ⟨rfl⟩)) ?_
                refine WO_p (PS_lenS Hvad.runUnderlying73 rfl) ?_
                refine WO_p (PS_neq rfl rfl) ?_
                refine WO_p (PS_move_bool rfl) ?_
                refine WO_if (t := 63) rfl (fun hb20 => ?_) (fun hb20 => ?_)
                · have hb20p := hb20.h; try simp only [al_ete, al_dfn, Bool.not_eq_true', Bool.not_eq_false', al_ne, Bool.not_not, al_nn] at hb20p
                  simp at hb20p --END
                · have hb20p := hb20.h; try simp only [al_ete, al_dfn, Bool.not_eq_true', Bool.not_eq_false', al_ne, Bool.not_not, al_nn] at hb20p
                  refine WO_guardT rfl rfl hb20.h ?_
                  refine WO_p (PS_move_ptr rfl) ?_
                  refine WO_guardT rfl rfl hb20.h ?_
                  refine WO_p (PS_nilCheck rfl) ?_
                  refine WO_guardT rfl rfl hb20.h ?_
                  refine WO_p (PS_fieldAddr 0 Hvad.runUnderlying69 rfl Hvad.sizeOf53 rfl rfl) ?_
                  refine WO_guardT rfl rfl hb20.h ?_
                  refine WO_load (.pointer _) Hvad.isAgg53 rfl (Hb.h (by repeat (first | assumption | exact Hb.newY _ _ | refine Hb.alloc ?_ | refine Hb.drew ?_ | refine Hb.ext (by assumption) ?_ | exact Hb.setSameL (by first | omega | (simp only [size_alloc, size_setB, size_drew]; omega)) | exact Hb.setSame (by assumption) | refine Hb.set (by first | omega | (simp only [size_alloc, size_setB, size_drew]; omega)) ?_ ))) (Ce.h (by first | assumption | exact ⟨rfl⟩)) ?_
                  refine WO_guardT rfl rfl hb20.h ?_
                  refine WO_p (PS_nilCheck rfl) ?_
                  refine WO_guardT rfl rfl hb20.h ?_
                  refine WO_p (PS_fieldAddr 24581 Hvad.runUnderlying79 rfl Hvad.sizeOf75 rfl rfl) ?_
                  refine WO_guardT rfl rfl hb20.h ?_
                  refine WO_load (.slice _ _ _) Hvad.isAgg75 rfl (Hb.h (by repeat (first | assumption | exact Hb.newY _ _ | refine Hb.alloc ?_ | refine Hb.drew ?_ | refine Hb.ext (by assumption) ?_ | exact Hb.setSameL (by first | omega | (simp only [size_alloc, size_setB, size_drew]; omega)) | exact Hb.setSame (by assumption) | refine Hb.set (by first | omega | (simp only [size_alloc, size_setB, size_drew]; omega)) ?_ ))) (Ce.h (by first | assumption | exact ⟨rfl⟩)) ?_
                  refine WO_guardT rfl rfl hb20.h ?_
                  refine WO_p (PS_lenS Hvad.runUnderlying75 rfl) ?_
                  refine WO_guardT rfl rfl hb20.h ?_
                  refine WO_p (PS_neq rfl rfl) ?_
                  refine WO_p (PS_pickF rfl hb20.h rfl) ?_
                  refine WO_p (PS_move_bool rfl) ?_
                  refine WO_if (t := 74) rfl (fun hb22 => ?_) (fun hb22 => ?_)
                  · have hb22p := hb22.h; try simp only [al_ete, al_dfn, Bool.not_eq_true', Bool.not_eq_false', al_ne, Bool.not_not, al_nn] at hb22p
                    simp at hb22p --END
                  · have hb22p := hb22.h; try simp only [al_ete, al_dfn, Bool.not_eq_true', Bool.not_eq_false', al_ne, Bool.not_not, al_nn] at hb22p
                    refine WO_guardT rfl rfl hb22.h ?_
                    refine WO_p (PS_move_ptr rfl) ?_
                    refine WO_guardT rfl rfl hb22.h ?_
                    refine WO_p (PS_nilCheck rfl) ?_
                    refine WO_guardT rfl rfl hb22.h ?_
                    refine WO_p (PS_fieldAddr 0 Hvad.runUnderlying69 rfl Hvad.sizeOf53 rfl rfl) ?_
                    refine WO_guardT rfl rfl hb22.h ?_
                    refine WO_load (.pointer _) Hvad.isAgg53 rfl (Hb.h (by repeat (first | assumption | exact Hb.newY _ _ | refine Hb.alloc ?_ | refine Hb.drew ?_ | refine Hb.ext (by assumption) ?_ | exact Hb.setSameL (by first | omega | (simp only [size_alloc, size_setB, size_drew]; omega)) | exact Hb.setSame (by assumption) | refine Hb.set (by first | omega | (simp only [size_alloc, size_setB, size_drew]; omega)) ?_ ))) (Ce.h (by first | assumption | exact ⟨rfl⟩)) ?_
                    refine WO_guardT rfl rfl hb22.h ?_
                    refine WO_p (PS_nilCheck rfl) ?_
                    refine WO_guardT rfl rfl hb22.h ?_
                    refine WO_p (PS_fieldAddr 24580 Hvad.runUnderlying79 rfl Hvad.sizeOf26 rfl rfl) ?_
                    refine WO_guardT rfl rfl hb22.h ?_
                    refine WO_load (.int _ _) Hvad.isAgg26 rfl (Hb.h (by repeat (first | assumption | exact Hb.newY _ _ | refine Hb.alloc ?_ | refine Hb.drew ?_ | refine Hb.ext (by assumption) ?_ | exact Hb.setSameL (by first | omega | (simp only [size_alloc, size_setB, size_drew]; omega)) | exact Hb.setSame (by assumption) | refine Hb.set (by first | omega | (simp only [size_alloc, size_setB, size_drew]; omega)) ?_ ))) (Ce.h (by first | assumption | exact ⟨rfl⟩)) ?_
                    refine WO_guardT rfl rfl hb22.h ?_
                    refine WO_p (PS_neq rfl rfl) ?_
                    refine WO_p (PS_pickF rfl hb22.h rfl) ?_
                    refine WO_p (PS_move_bool rfl) ?_
                    refine WO_if (t := 84) rfl (fun hb24 => ?_) (fun hb24 => ?_)
                    · have hb24p := hb24.h; try simp only [al_ete, al_dfn, Bool.not_eq_true', Bool.not_eq_false', al_ne, Bool.not_not, al_nn] at hb24p
                      simp at hb24p --END
                    · have hb24p := hb24.h; try simp only [al_ete, al_dfn, Bool.not_eq_true', Bool.not_eq_false', al_ne, Bool.not_not, al_nn] at hb24p
                      refine WO_guardT rfl rfl hb24.h ?_
                      refine WO_p (PS_move_ptr rfl) ?_
                      refine WO_guardT rfl rfl hb24.h ?_
                      refine WO_p (PS_nilCheck rfl) ?_
                      refine WO_guardT rfl rfl hb24.h ?_
                      refine WO_p (PS_fieldAddr 0 Hvad.runUnderlying69 rfl Hvad.sizeOf53 rfl rfl) ?_
                      refine WO_guardT rfl rfl hb24.h ?_
                      refine WO_load (.pointer _) Hvad.isAgg53 rfl (Hb.h (by repeat (first | assumption | exact Hb.newY _ _ | refine Hb.alloc ?_ | refine Hb.drew ?_ | refine Hb.ext (by assumption) ?_ | exact Hb.setSameL (by first | omega | (simp only [size_alloc, size_setB, size_drew]; omega)) | exact Hb.setSame (by assumption) | refine Hb.set (by first | omega | (simp only [size_alloc, size_setB, size_drew]; omega)) ?_ ))) (Ce.h (by first | assumption | exact ⟨rfl⟩)) ?_
                      refine WO_guardT rfl rfl hb24.h ?_
                      refine WO_p (PS_nilCheck rfl) ?_
                      refine WO_guardT rfl rfl hb24.h ?_
                      refine WO_p (PS_fieldAddr 24582 Hvad.runUnderlying79 rfl Hvad.sizeOf76 rfl rfl) ?_
                      refine WO_guardT rfl rfl hb24.h ?_
                      refine WO_load (.slice _ _ _) Hvad.isAgg76 rfl (Hb.h (by repeat (first | assumption | exact Hb.newY _ _ | refine Hb.alloc ?_ | refine Hb.drew ?_ | refine Hb.ext (by assumption) ?_ | exact Hb.setSameL (by first | omega | (simp only [size_alloc, size_setB, size_drew]; omega)) | exact Hb.setSame (by assumption) | refine Hb.set (by first | omega | (simp only [size_alloc, size_setB, size_drew]; omega)) ?_ ))) (Ce.h (by first | assumption | exact ⟨rfl⟩)) ?_
                      refine WO_guardT rfl rfl hb24.h ?_
                      refine WO_p (PS_lenS Hvad.runUnderlying76 rfl) ?_
                      refine WO_guardT rfl rfl hb24.h ?_
                      refine WO_p (PS_neq rfl rfl) ?_
                      refine WO_p (PS_pickF rfl hb24.h rfl) ?_
                      refine WO_p (PS_move_bool rfl) ?_
                      refine WO_if (t := 95) rfl (fun hb26 => ?_) (fun hb26 => ?_)
                      · have hb26p := hb26.h; try simp only [al_ete, al_dfn, Bool.not_eq_true', Bool.not_eq_false', al_ne, Bool.not_not, al_nn] at hb26p
                        simp at hb26p --END
                      · have hb26p := hb26.h; try simp only [al_ete, al_dfn, Bool.not_eq_true', Bool.not_eq_false', al_ne, Bool.not_not, al_nn] at hb26p
                        refine WO_guardT rfl rfl hb26.h ?_
                        refine WO_p (PS_move_ptr rfl) ?_
                        refine WO_guardT rfl rfl hb26.h ?_
                        refine WO_p (PS_nilCheck rfl) ?_
                        refine WO_guardT rfl rfl hb26.h ?_
                        refine WO_p (PS_fieldAddr 0 Hvad.runUnderlying69 rfl Hvad.sizeOf53 rfl rfl) ?_
                        refine WO_guardT rfl rfl hb26.h ?_
                        refine WO_load (.pointer _) Hvad.isAgg53 rfl (Hb.h (by repeat (first | assumption | exact Hb.newY _ _ | refine Hb.alloc ?_ | refine Hb.drew ?_ | refine Hb.ext (by assumption) ?_ | exact Hb.setSameL (by first | omega | (simp only [size_alloc, size_setB, size_drew]; omega)) | exact Hb.setSame (by assumption) | refine Hb.set (by first | omega | (simp only [size_alloc, size_setB, size_drew]; omega)) ?_ ))) (Ce.h (by first | assumption | exact ⟨rfl⟩)) ?_
                        refine WO_guardT rfl rfl hb26.h ?_
                        refine WO_p (PS_nilCheck rfl) ?_
                        refine WO_guardT rfl rfl hb26.h ?_
                        refine WO_p (PS_fieldAddr 24579 Hvad.runUnderlying79 rfl Hvad.sizeOf21 rfl rfl) ?_
                        refine WO_guardT rfl rfl hb26.h ?_
                        refine WO_load (.int _ _) Hvad.isAgg21 rfl (Hb.h (by repeat (first | assumption | exact Hb.newY _ _ | refine Hb.alloc ?_ | refine Hb.drew ?_ | refine Hb.ext (by assumption) ?_ | exact Hb.setSameL (by first | omega | (simp only [size_alloc, size_setB, size_drew]; omega)) | exact Hb.setSame (by assumption) | refine Hb.set (by first | omega | (simp only [size_alloc, size_setB, size_drew]; omega)) ?_ ))) (Ce.h (by first | assumption | exact ⟨rfl⟩)) ?_
                        refine WO_guardT rfl rfl hb26.h ?_
                        refine WO_p (PS_gtr rfl rfl) ?_
                        refine WO_p (PS_pickF rfl hb26.h rfl) ?_
                        refine WO_nil ?_
                        refine thn_normal ?_
                        refine W_if rfl (fun hb28 => ?_) (fun hb28 => ?_)
                        · have hb28p := hb28.h; try simp only [al_ete, al_dfn, Bool.not_eq_true', Bool.not_eq_false', al_ne, Bool.not_not, al_nn] at hb28p
                          simp at hb28p --END
                        · have hb28p := hb28.h; try simp only [al_ete, al_dfn, Bool.not_eq_true', Bool.not_eq_false', al_ne, Bool.not_not, al_nn] at hb28p
                          refine W_skip ?_
                          refine thn_normal ?_
                          refine W_seq ?_
                          refine W_seq ?_
                          refine W_region rfl ?_
                          refine WO_p (PS_move_ptr rfl) ?_
                          refine WO_p (PS_nilCheck rfl) ?_
                          refine WO_p (PS_fieldAddr 0 Hvad.runUnderlying69 rfl Hvad.sizeOf53 rfl rfl) ?_
                          refine WO_load (.pointer _) Hvad.isAgg53 rfl (Hb.h (by repeat (first | assumption | exact Hb.newY _ _ | refine Hb.alloc ?_ | refine Hb.drew ?_ | refine Hb.ext (by assumption) ?_ | exact Hb.setSameL (by first | omega | (simp only [size_alloc, size_setB, size_drew]; omega)) | exact Hb.setSame (by assumption) | refine Hb.set (by first | omega | (simp only [size_alloc, size_setB, size_drew]; omega)) ?_ ))) (Ce.h (by first | assumption | exact ⟨rfl⟩)) ?_
                          refine WO_p (PS_nilCheck rfl) ?_
                          refine WO_p (PS_fieldAddr 0 Hvad.runUnderlying79 rfl Hvad.sizeOf70 rfl rfl) ?_
                          refine WO_load (.slice _ _ _) Hvad.isAgg70 rfl (Hb.h (by repeat (first | assumption | exact Hb.newY _ _ | refine Hb.alloc ?_ | refine Hb.drew ?_ | refine Hb.ext (by assumption) ?_ | exact Hb.setSameL (by first | omega | (simp only [size_alloc, size_setB, size_drew]; omega)) | exact Hb.setSame (by assumption) | refine Hb.set (by first | omega | (simp only [size_alloc, size_setB, size_drew]; omega)) ?_ ))) (Ce.h (by first | assumption | exact ⟨rfl⟩)) ?_
                          refine WO_p (PS_lenS Hvad.runUnderlying70 rfl) ?_
                          refine WO_p (PS_move_int rfl) ?_
                          refine WO_nil ?_
                          refine thn_normal ?_
                          refine W_block ?_
                          refine W_loopN (fun k ρ w' => ∃ i : Nat, i + k = v.accts.length ∧ Fr [(0, .pointer (some ⟨C, 0, none⟩)), (112, .int .i64 v.accts.length), (113, .int .i64 i)] ρ ∧ Ext w w') v.accts.length ?_ ?_
                          · exact ⟨0, by omega, ⟨rfl, rfl, rfl, trivial⟩, (by repeat (first | assumption | exact Ext.refl _ | refine Ext.alloc ?_ _ | refine Ext.drew ?_ | refine Ext.setB ?_ (by first | omega | (simp only [size_alloc, size_setB, size_drew]; omega)) _ | refine Ext.trans ?_ (by assumption)))⟩
                          intro k ρ w2 hI
                          obtain ⟨i, hik, hFr2, hE2⟩ := hI
                          refine W_env _ hFr2 ?_
                          have hz2 := hE2.1
                          refine W_seq ?_
                          refine W_region rfl ?_
                          refine WO_p (PS_lss rfl rfl) ?_
                          refine WO_nil ?_
                          refine thn_normal ?_
                          refine W_seq ?_
                          refine W_if rfl (fun hb30 => ?_) (fun hb30 => ?_)
                          · have hb30p := hb30.h; try simp only [al_ete, al_dfn, Bool.not_eq_true', Bool.not_eq_false', al_ne, Bool.not_not, al_nn] at hb30p
                            obtain ⟨xi, hxi⟩ : ∃ xi, v.accts[i]? = some xi := ⟨_, List.getElem?_eq_getElem (by omega)⟩
                            obtain ⟨b, cap, r, hab, hcap, hr, hrs, hrow, hda, hbd, hil, hty, f0, f1, f2, f3, f4, f5, f6⟩ := (hM.vs.ext hE2).openA hxi
                            replace hc_accts : Ce c (2435 + 0) (.slice (some ⟨b, 0, none⟩) v.accts.length cap) := hda
                            have hax := hi.acY xi (List.mem_of_getElem? hxi)
                            rw [hax.1] at f4
                            rw [hax.2.1] at f5
                            rw [hax.2.2] at f6
                            refine W_skip ?_
                            refine thn_normal ?_
                            refine W_seq ?_
                            refine W_block ?_
                            refine W_seq ?_
                            refine W_region rfl ?_
                            refine WO_p (PS_move_int rfl) ?_
                            refine WO_p (PS_assign_int rfl) ?_
                            refine WO_nil ?_
                            refine thn_normal ?_
                            refine W_seq ?_
                            refine W_region rfl ?_
                            refine WO_p (PS_move_ptr rfl) ?_
                            refine WO_p (PS_nilCheck rfl) ?_
                            refine WO_p (PS_fieldAddr 0 Hvad.runUnderlying69 rfl Hvad.sizeOf53 rfl rfl) ?_
                            refine WO_load (.pointer _) Hvad.isAgg53 rfl (Hb.h (by repeat (first | assumption | exact Hb.newY _ _ | refine Hb.alloc ?_ | refine Hb.drew ?_ | refine Hb.ext (by assumption) ?_ | exact Hb.setSameL (by first | omega | (simp only [size_alloc, size_setB, size_drew]; omega)) | exact Hb.setSame (by assumption) | refine Hb.set (by first | omega | (simp only [size_alloc, size_setB, size_drew]; omega)) ?_ ))) (Ce.h (by first | assumption | exact ⟨rfl⟩)) ?_
                            refine WO_p (PS_nilCheck rfl) ?_
                            refine WO_p (PS_fieldAddr 0 Hvad.runUnderlying79 rfl Hvad.sizeOf70 rfl rfl) ?_
                            refine WO_load (.slice _ _ _) Hvad.isAgg70 rfl (Hb.h (by repeat (first | assumption | exact Hb.newY _ _ | refine Hb.alloc ?_ | refine Hb.drew ?_ | refine Hb.ext (by assumption) ?_ | exact Hb.setSameL (by first | omega | (simp only [size_alloc, size_setB, size_drew]; omega)) | exact Hb.setSame (by assumption) | refine Hb.set (by first | omega | (simp only [size_alloc, size_setB, size_drew]; omega)) ?_ ))) (Ce.h (by first | assumption | exact ⟨rfl⟩)) ?_
                            refine WO_p (PS_move_int rfl) ?_
                            refine WO_p (PS_indexS Hvad.runUnderlying70 Hvad.sizeOf149 rfl rfl (by omega) (by omega)) ?_
                            refine WO_p (PS_fieldAddr 26 Hvad.runUnderlying149 rfl Hvad.sizeOf4 rfl rfl) ?_
                            refine WO_load (.bool _) Hvad.isAgg4 rfl (Hb.h (by repeat (first | assumption | exact Hb.newY _ _ | refine Hb.alloc ?_ | refine Hb.drew ?_ | refine Hb.ext (by assumption) ?_ | exact Hb.setSameL (by first | omega | (simp only [size_alloc, size_setB, size_drew]; omega)) | exact Hb.setSame (by assumption) | refine Hb.set (by first | omega | (simp only [size_alloc, size_setB, size_drew]; omega)) ?_ ))) (Ce.h (by first | assumption | exact ⟨rfl⟩)) ?_
                            refine WO_p (PS_move_bool rfl) ?_
                            refine WO_if (t := 127) rfl (fun hb32 => ?_) (fun hb32 => ?_)
                            · have hb32p := hb32.h; try simp only [al_ete, al_dfn, Bool.not_eq_true', Bool.not_eq_false', al_ne, Bool.not_not, al_nn] at hb32p
                              (exfalso; simp_all) --END
                            · have hb32p := hb32.h; try simp only [al_ete, al_dfn, Bool.not_eq_true', Bool.not_eq_false', al_ne, Bool.not_not, al_nn] at hb32p
                              refine WO_guardT rfl rfl hb32.h ?_
                              refine WO_p (PS_move_ptr rfl) ?_
                              refine WO_guardT rfl rfl hb32.h ?_
                              refine WO_p (PS_nilCheck rfl) ?_
                              refine WO_guardT rfl rfl hb32.h ?_
                              refine WO_p (PS_fieldAddr 0 Hvad.runUnderlying69 rfl Hvad.sizeOf53 rfl rfl) ?_
                              refine WO_guardT rfl rfl hb32.h ?_
                              refine WO_load (.pointer _) Hvad.isAgg53 rfl (Hb.h (by repeat (first | assumption | exact Hb.newY _ _ | refine Hb.alloc ?_ | refine Hb.drew ?_ | refine Hb.ext (by assumption) ?_ | exact Hb.setSameL (by first | omega | (simp only [size_alloc, size_setB, size_drew]; omega)) | exact Hb.setSame (by assumption) | refine Hb.set (by first | omega | (simp only [size_alloc, size_setB, size_drew]; omega)) ?_ ))) (Ce.h (by first | assumption | exact ⟨rfl⟩)) ?_
                              refine WO_guardT rfl rfl hb32.h ?_
                              refine WO_p (PS_nilCheck rfl) ?_
                              refine WO_guardT rfl rfl hb32.h ?_
                              refine WO_p (PS_fieldAddr 0 Hvad.runUnderlying79 rfl Hvad.sizeOf70 rfl rfl) ?_
                              refine WO_guardT rfl rfl hb32.h ?_
                              refine WO_load (.slice _ _ _) Hvad.isAgg70 rfl (Hb.h (by repeat (first | assumption | exact Hb.newY _ _ | refine Hb.alloc ?_ | refine Hb.drew ?_ | refine Hb.ext (by assumption) ?_ | exact Hb.setSameL (by first | omega | (simp only [size_alloc, size_setB, size_drew]; omega)) | exact Hb.setSame (by assumption) | refine Hb.set (by first | omega | (simp only [size_alloc, size_setB, size_drew]; omega)) ?_ ))) (Ce.h (by first | assumption | exact ⟨rfl⟩)) ?_
                              refine WO_guardT rfl rfl hb32.h ?_
                              refine WO_p (PS_move_int rfl) ?_
                              refine WO_guardT rfl rfl hb32.h ?_
                              refine WO_p (PS_indexS Hvad.runUnderlying70 Hvad.sizeOf149 rfl rfl (by omega) (by omega)) ?_
                              refine WO_guardT rfl rfl hb32.h ?_
                              refine WO_p (PS_fieldAddr 27 Hvad.runUnderlying149 rfl Hvad.sizeOf4 rfl rfl) ?_
                              refine WO_guardT rfl rfl hb32.h ?_
                              refine WO_load (.bool _) Hvad.isAgg4 rfl (Hb.h (by repeat (first | assumption | exact Hb.newY _ _ | refine Hb.alloc ?_ | refine Hb.drew ?_ | refine Hb.ext (by assumption) ?_ | exact Hb.setSameL (by first | omega | (simp only [size_alloc, size_setB, size_drew]; omega)) | exact Hb.setSame (by assumption) | refine Hb.set (by first | omega | (simp only [size_alloc, size_setB, size_drew]; omega)) ?_ ))) (Ce.h (by first | assumption | exact ⟨rfl⟩)) ?_
                              refine WO_p (PS_pickF rfl hb32.h rfl) ?_
                              refine WO_p (PS_move_bool rfl) ?_
                              refine WO_if (t := 140) rfl (fun hb34 => ?_) (fun hb34 => ?_)
                              · have hb34p := hb34.h; try simp only [al_ete, al_dfn, Bool.not_eq_true', Bool.not_eq_false', al_ne, Bool.not_not, al_nn] at hb34p
                                (exfalso; simp_all) --END
                              · have hb34p := hb34.h; try simp only [al_ete, al_dfn, Bool.not_eq_true', Bool.not_eq_false', al_ne, Bool.not_not, al_nn] at hb34p
                                refine WO_guardT rfl rfl hb34.h ?_
                                refine WO_p (PS_move_ptr rfl) ?_
                                refine WO_guardT rfl rfl hb34.h ?_
                                refine WO_p (PS_nilCheck rfl) ?_
                                refine WO_guardT rfl rfl hb34.h ?_
                                refine WO_p (PS_fieldAddr 0 Hvad.runUnderlying69 rfl Hvad.sizeOf53 rfl rfl) ?_
                                refine WO_guardT rfl rfl hb34.h ?_
                                refine WO_load (.pointer _) Hvad.isAgg53 rfl (Hb.h (by repeat (first | assumption | exact Hb.newY _ _ | refine Hb.alloc ?_ | refine Hb.drew ?_ | refine Hb.ext (by assumption) ?_ | exact Hb.setSameL (by first | omega | (simp only [size_alloc, size_setB, size_drew]; omega)) | exact Hb.setSame (by assumption) | refine Hb.set (by first | omega | (simp only [size_alloc, size_setB, size_drew]; omega)) ?_ ))) (Ce.h (by first | assumption | exact ⟨rfl⟩)) ?_
                                refine WO_guardT rfl rfl hb34.h ?_
                                refine WO_p (PS_nilCheck rfl) ?_
                                refine WO_guardT rfl rfl hb34.h ?_
                                refine WO_p (PS_fieldAddr 0 Hvad.runUnderlying79 rfl Hvad.sizeOf70 rfl rfl) ?_
                                refine WO_guardT rfl rfl hb34.h ?_
                                refine WO_load (.slice _ _ _) Hvad.isAgg70 rfl (Hb.h (by repeat (first | assumption | exact Hb.newY _ _ | refine Hb.alloc ?_ | refine Hb.drew ?_ | refine Hb.ext (by assumption) ?_ | exact Hb.setSameL (by first | omega | (simp only [size_alloc, size_setB, size_drew]; omega)) | exact Hb.setSame (by assumption) | refine Hb.set (by first | omega | (simp only [size_alloc, size_setB, size_drew]; omega)) ?_ ))) (Ce.h (by first | assumption | exact ⟨rfl⟩)) ?_
                                refine WO_guardT rfl rfl hb34.h ?_
                                refine WO_p (PS_move_int rfl) ?_
                                refine WO_guardT rfl rfl hb34.h ?_
                                refine WO_p (PS_indexS Hvad.runUnderlying70 Hvad.sizeOf149 rfl rfl (by omega) (by omega)) ?_
                                refine WO_guardT rfl rfl hb34.h ?_
                                refine WO_p (PS_fieldAddr 28 Hvad.runUnderlying149 rfl Hvad.sizeOf4 rfl rfl) ?_
                                refine WO_guardT rfl rfl hb34.h ?_
                                refine WO_load (.bool _) Hvad.isAgg4 rfl (Hb.h (by repeat (first | assumption | exact Hb.newY _ _ | refine Hb.alloc ?_ | refine Hb.drew ?_ | refine Hb.ext (by assumption) ?_ | exact Hb.setSameL (by first | omega | (simp only [size_alloc, size_setB, size_drew]; omega)) | exact Hb.setSame (by assumption) | refine Hb.set (by first | omega | (simp only [size_alloc, size_setB, size_drew]; omega)) ?_ ))) (Ce.h (by first | assumption | exact ⟨rfl⟩)) ?_
                                refine WO_p (PS_pickF rfl hb34.h rfl) ?_
                                refine WO_nil ?_
                                refine thn_normal ?_
                                refine W_if rfl (fun hb36 => ?_) (fun hb36 => ?_)
                                · have hb36p := hb36.h; try simp only [al_ete, al_dfn, Bool.not_eq_true', Bool.not_eq_false', al_ne, Bool.not_not, al_nn] at hb36p
                                  (exfalso; simp_all) --END
                                · have hb36p := hb36.h; try simp only [al_ete, al_dfn, Bool.not_eq_true', Bool.not_eq_false', al_ne, Bool.not_not, al_nn] at hb36p
                                  refine W_skip ?_
                                  refine inBlk_normal ?_
                                  refine thn_normal ?_
                                  refine W_region rfl ?_
                                  refine WO_p (PS_add_i64n rfl rfl (by omega) (by omega)) ?_
                                  refine WO_p (PS_move_int rfl) ?_
                                  refine WO_nil ?_
                                  refine thn_normal ?_
                                  exact ⟨k - 1, by omega, i + 1, by omega, ⟨rfl, rfl, congrArg (Value.int .i64) (by omega), trivial⟩, (by repeat (first | assumption | exact Ext.refl _ | refine Ext.alloc ?_ _ | refine Ext.drew ?_ | refine Ext.setB ?_ (by first | omega | (simp only [size_alloc, size_setB, size_drew]; omega)) _ | exact Ext.trans (by assumption) (by assumption) | refine Ext.trans ?_ (by assumption)))⟩
                          · have hb30p := hb30.h; try simp only [al_ete, al_dfn, Bool.not_eq_true', Bool.not_eq_false', al_ne, Bool.not_not, al_nn] at hb30p
                            refine W_exit ?_
                            refine thn_exit ?_
                            refine thn_exit ?_
                            refine inBlk_exit ?_
                            refine thn_normal ?_
                            refine W_seq ?_
                            refine W_seq ?_
                            refine W_region rfl ?_
                            refine WO_p (PS_move_ptr rfl) ?_
                            refine WO_p (PS_nilCheck rfl) ?_
                            refine WO_p (PS_fieldAddr 0 Hvad.runUnderlying69 rfl Hvad.sizeOf53 rfl rfl) ?_
                            refine WO_load (.pointer _) Hvad.isAgg53 rfl (Hb.h (by repeat (first | assumption | exact Hb.newY _ _ | refine Hb.alloc ?_ | refine Hb.drew ?_ | refine Hb.ext (by assumption) ?_ | exact Hb.setSameL (by first | omega | (simp only [size_alloc, size_setB, size_drew]; omega)) | exact Hb.setSame (by assumption) | refine Hb.set (by first | omega | (simp only [size_alloc, size_setB, size_drew]; omega)) ?_ ))) (Ce.h (by first | assumption | exact ⟨rfl⟩)) ?_
                            refine WO_p (PS_nilCheck rfl) ?_
                            refine WO_p (PS_fieldAddr 1 Hvad.runUnderlying79 rfl Hvad.sizeOf71 rfl rfl) ?_
                            refine WO_load (.slice _ _ _) Hvad.isAgg71 rfl (Hb.h (by repeat (first | assumption | exact Hb.newY _ _ | refine Hb.alloc ?_ | refine Hb.drew ?_ | refine Hb.ext (by assumption) ?_ | exact Hb.setSameL (by first | omega | (simp only [size_alloc, size_setB, size_drew]; omega)) | exact Hb.setSame (by assumption) | refine Hb.set (by first | omega | (simp only [size_alloc, size_setB, size_drew]; omega)) ?_ ))) (Ce.h (by first | assumption | exact ⟨rfl⟩)) ?_
                            refine WO_p (PS_lenS Hvad.runUnderlying71 rfl) ?_
                            refine WO_p (PS_move_int rfl) ?_
                            refine WO_nil ?_
                            refine thn_normal ?_
                            refine W_block ?_
                            refine W_loopN (fun k ρ w' => ∃ i : Nat, i + k = v.slots.length ∧ Fr [(0, .pointer (some ⟨C, 0, none⟩)), (161, .int .i64 v.slots.length), (162, .int .i64 i)] ρ ∧ Ext w w') v.slots.length ?_ ?_
                            · exact ⟨0, by omega, ⟨rfl, rfl, rfl, trivial⟩, (by repeat (first | assumption | exact Ext.refl _ | refine Ext.alloc ?_ _ | refine Ext.drew ?_ | refine Ext.setB ?_ (by first | omega | (simp only [size_alloc, size_setB, size_drew]; omega)) _ | refine Ext.trans ?_ (by assumption)))⟩
                            intro k ρ w2 hI
                            obtain ⟨i, hik, hFr2, hE2⟩ := hI
                            refine W_env _ hFr2 ?_
                            have hz2 := hE2.1
                            refine W_seq ?_
                            refine W_region rfl ?_
                            refine WO_p (PS_lss rfl rfl) ?_
                            refine WO_nil ?_
                            refine thn_normal ?_
                            refine W_seq ?_
                            refine W_if rfl (fun hb38 => ?_) (fun hb38 => ?_)
                            · have hb38p := hb38.h; try simp only [al_ete, al_dfn, Bool.not_eq_true', Bool.not_eq_false', al_ne, Bool.not_not, al_nn] at hb38p
                              obtain ⟨xi, hxi⟩ : ∃ xi, v.slots[i]? = some xi := ⟨_, List.getElem?_eq_getElem (by omega)⟩
                              obtain ⟨b, cap, r, hab, hcap, hr, hrs, hrow, hda, hbd, hil, hty, f0, f1, f2, f3, f4⟩ := (hM.vs.ext hE2).openS hxi
                              replace hc_slots : Ce c (2435 + 1) (.slice (some ⟨b, 0, none⟩) v.slots.length cap) := hda
                              have hax := hi.sl xi (List.mem_of_getElem? hxi)
                              have hvl := hty.2.2.1.1
                              have hol := hty.2.2.2.1
                              rw [hax.1] at f4
                              refine W_skip ?_
                              refine thn_normal ?_
                              refine W_seq ?_
                              refine W_block ?_
                              refine W_seq ?_
                              refine W_region rfl ?_
                              refine WO_p (PS_move_int rfl) ?_
                              refine WO_p (PS_assign_int rfl) ?_
                              refine WO_nil ?_
                              refine thn_normal ?_
                              refine W_seq ?_
                              refine W_drawE [false, false, false, false, false, false, false, false, false, false, false, false, false, false, false, false, false, false, false, false, false, false, false, false, false, false, false, false, false, false, false, false, false, false, false, false] hmix (by kernel_rfl) rfl ?_
                              refine WH_p (PS_move_ptr rfl) rfl ?_
                              refine WH_p (PS_nilCheck rfl) rfl ?_
                              refine WH_p (PS_fieldAddr 0 Hvad.runUnderlying69 rfl Hvad.sizeOf53 rfl rfl) rfl ?_
                              refine WH_load (.pointer _) Hvad.isAgg53 rfl (Hb.h (by repeat (first | assumption | exact Hb.newY _ _ | refine Hb.alloc ?_ | refine Hb.drew ?_ | refine Hb.ext (by assumption) ?_ | exact Hb.setSameL (by first | omega | (simp only [size_alloc, size_setB, size_drew]; omega)) | exact Hb.setSame (by assumption) | refine Hb.set (by first | omega | (simp only [size_alloc, size_setB, size_drew]; omega)) ?_ ))) (Ce.h (by first | assumption | exact ⟨rfl⟩)) ?_
                              refine WH_p (PS_nilCheck rfl) rfl ?_
                              refine WH_p (PS_fieldAddr 1 Hvad.runUnderlying79 rfl Hvad.sizeOf71 rfl rfl) rfl ?_
                              refine WH_load (.slice _ _ _) Hvad.isAgg71 rfl (Hb.h (by repeat (first | assumption | exact Hb.newY _ _ | refine Hb.alloc ?_ | refine Hb.drew ?_ | refine Hb.ext (by assumption) ?_ | exact Hb.setSameL (by first | omega | (simp only [size_alloc, size_setB, size_drew]; omega)) | exact Hb.setSame (by assumption) | refine Hb.set (by first | omega | (simp only [size_alloc, size_setB, size_drew]; omega)) ?_ ))) (Ce.h (by first | assumption | exact ⟨rfl⟩)) ?_
                              refine WH_p (PS_move_int rfl) rfl ?_
                              refine WH_p (PS_indexS Hvad.runUnderlying71 Hvad.sizeOf152 rfl rfl (by omega) (by omega)) rfl ?_
                              refine WH_p (PS_fieldAddr 13 Hvad.runUnderlying152 rfl Hvad.sizeOf4 rfl rfl) rfl ?_
                              refine WH_load (.bool _) Hvad.isAgg4 rfl (Hb.h (by repeat (first | assumption | exact Hb.newY _ _ | refine Hb.alloc ?_ | refine Hb.drew ?_ | refine Hb.ext (by assumption) ?_ | exact Hb.setSameL (by first | omega | (simp only [size_alloc, size_setB, size_drew]; omega)) | exact Hb.setSame (by assumption) | refine Hb.set (by first | omega | (simp only [size_alloc, size_setB, size_drew]; omega)) ?_ ))) (Ce.h (by first | assumption | exact ⟨rfl⟩)) ?_
                              refine WH_p (PS_move_bool rfl) rfl ?_
                              refine WH_if (t := 176) rfl (fun hb40 => ?_) (fun hb40 => ?_)
                              · have hb40p := hb40.h; try simp only [al_ete, al_dfn, Bool.not_eq_true', Bool.not_eq_false', al_ne, Bool.not_not, al_nn] at hb40p
                                (exfalso; simp_all) --END
                              · have hb40p := hb40.h; try simp only [al_ete, al_dfn, Bool.not_eq_true', Bool.not_eq_false', al_ne, Bool.not_not, al_nn] at hb40p
                                refine WH_guardT rfl rfl hb40.h ?_
                                refine WH_p (PS_move_ptr rfl) rfl ?_
                                refine WH_guardT rfl rfl hb40.h ?_
                                refine WH_p (PS_nilCheck rfl) rfl ?_
                                refine WH_guardT rfl rfl hb40.h ?_
                                refine WH_p (PS_fieldAddr 0 Hvad.runUnderlying69 rfl Hvad.sizeOf53 rfl rfl) rfl ?_
                                refine WH_guardT rfl rfl hb40.h ?_
                                refine WH_load (.pointer _) Hvad.isAgg53 rfl (Hb.h (by repeat (first | assumption | exact Hb.newY _ _ | refine Hb.alloc ?_ | refine Hb.drew ?_ | refine Hb.ext (by assumption) ?_ | exact Hb.setSameL (by first | omega | (simp only [size_alloc, size_setB, size_drew]; omega)) | exact Hb.setSame (by assumption) | refine Hb.set (by first | omega | (simp only [size_alloc, size_setB, size_drew]; omega)) ?_ ))) (Ce.h (by first | assumption | exact ⟨rfl⟩)) ?_
                                refine WH_guardT rfl rfl hb40.h ?_
                                refine WH_p (PS_nilCheck rfl) rfl ?_
                                refine WH_guardT rfl rfl hb40.h ?_
                                refine WH_p (PS_fieldAddr 1 Hvad.runUnderlying79 rfl Hvad.sizeOf71 rfl rfl) rfl ?_
                                refine WH_guardT rfl rfl hb40.h ?_
                                refine WH_load (.slice _ _ _) Hvad.isAgg71 rfl (Hb.h (by repeat (first | assumption | exact Hb.newY _ _ | refine Hb.alloc ?_ | refine Hb.drew ?_ | refine Hb.ext (by assumption) ?_ | exact Hb.setSameL (by first | omega | (simp only [size_alloc, size_setB, size_drew]; omega)) | exact Hb.setSame (by assumption) | refine Hb.set (by first | omega | (simp only [size_alloc, size_setB, size_drew]; omega)) ?_ ))) (Ce.h (by first | assumption | exact ⟨rfl⟩)) ?_
                                refine WH_guardT rfl rfl hb40.h ?_
                                refine WH_p (PS_move_int rfl) rfl ?_
                                refine WH_guardT rfl rfl hb40.h ?_
                                refine WH_p (PS_indexS Hvad.runUnderlying71 Hvad.sizeOf152 rfl rfl (by omega) (by omega)) rfl ?_
                                refine WH_guardT rfl rfl hb40.h ?_
                                refine WH_p (PS_fieldAddr 9 Hvad.runUnderlying152 rfl Hvad.sizeOf59 rfl rfl) rfl ?_
                                refine WH_guardT rfl rfl hb40.h ?_
                                refine WH_loadA _ Hvad.isAgg59 Hvad.sizeOf59 rfl (Hb.h (by repeat (first | assumption | exact Hb.newY _ _ | refine Hb.alloc ?_ | refine Hb.drew ?_ | refine Hb.ext (by assumption) ?_ | exact Hb.setSameL (by first | omega | (simp only [size_alloc, size_setB, size_drew]; omega)) | exact Hb.setSame (by assumption) | refine Hb.set (by first | omega | (simp only [size_alloc, size_setB, size_drew]; omega)) ?_ ))) (by first | omega | assumption | rfl | decide | exact Nat.le_refl _ | (simp only [size_ic, Value.cells]; omega) | simp) (Xt.h (by first | assumption | exact Xt.whole rfl rfl | exact Xt.whole rfl (by simp only [size_ic, Value.cells]; omega) | exact ⟨rfl⟩)) ?_
                                refine WH_guardT rfl rfl hb40.h ?_
                                refine WH_p (PS_move_ptr rfl) rfl ?_
                                refine WH_guardT rfl rfl hb40.h ?_
                                refine WH_p (PS_nilCheck rfl) rfl ?_
                                refine WH_guardT rfl rfl hb40.h ?_
                                refine WH_p (PS_fieldAddr 0 Hvad.runUnderlying69 rfl Hvad.sizeOf53 rfl rfl) rfl ?_
                                refine WH_guardT rfl rfl hb40.h ?_
                                refine WH_load (.pointer _) Hvad.isAgg53 rfl (Hb.h (by repeat (first | assumption | exact Hb.newY _ _ | refine Hb.alloc ?_ | refine Hb.drew ?_ | refine Hb.ext (by assumption) ?_ | exact Hb.setSameL (by first | omega | (simp only [size_alloc, size_setB, size_drew]; omega)) | exact Hb.setSame (by assumption) | refine Hb.set (by first | omega | (simp only [size_alloc, size_setB, size_drew]; omega)) ?_ ))) (Ce.h (by first | assumption | exact ⟨rfl⟩)) ?_
                                refine WH_guardT rfl rfl hb40.h ?_
                                refine WH_p (PS_nilCheck rfl) rfl ?_
                                refine WH_guardT rfl rfl hb40.h ?_
                                refine WH_p (PS_fieldAddr 1 Hvad.runUnderlying79 rfl Hvad.sizeOf71 rfl rfl) rfl ?_
                                refine WH_guardT rfl rfl hb40.h ?_
                                refine WH_load (.slice _ _ _) Hvad.isAgg71 rfl (Hb.h (by repeat (first | assumption | exact Hb.newY _ _ | refine Hb.alloc ?_ | refine Hb.drew ?_ | refine Hb.ext (by assumption) ?_ | exact Hb.setSameL (by first | omega | (simp only [size_alloc, size_setB, size_drew]; omega)) | exact Hb.setSame (by assumption) | refine Hb.set (by first | omega | (simp only [size_alloc, size_setB, size_drew]; omega)) ?_ ))) (Ce.h (by first | assumption | exact ⟨rfl⟩)) ?_
                                refine WH_guardT rfl rfl hb40.h ?_
                                refine WH_p (PS_move_int rfl) rfl ?_
                                refine WH_guardT rfl rfl hb40.h ?_
                                refine WH_p (PS_indexS Hvad.runUnderlying71 Hvad.sizeOf152 rfl rfl (by omega) (by omega)) rfl ?_
                                refine WH_guardT rfl rfl hb40.h ?_
                                refine WH_p (PS_fieldAddr 5 Hvad.runUnderlying152 rfl Hvad.sizeOf59 rfl rfl) rfl ?_
                                refine WH_guardT rfl rfl hb40.h ?_
                                refine WH_loadA _ Hvad.isAgg59 Hvad.sizeOf59 rfl (Hb.h (by repeat (first | assumption | exact Hb.newY _ _ | refine Hb.alloc ?_ | refine Hb.drew ?_ | refine Hb.ext (by assumption) ?_ | exact Hb.setSameL (by first | omega | (simp only [size_alloc, size_setB, size_drew]; omega)) | exact Hb.setSame (by assumption) | refine Hb.set (by first | omega | (simp only [size_alloc, size_setB, size_drew]; omega)) ?_ ))) (by first | omega | assumption | rfl | decide | exact Nat.le_refl _ | (simp only [size_ic, Value.cells]; omega) | simp) (Xt.h (by first | assumption | exact Xt.whole rfl rfl | exact Xt.whole rfl (by simp only [size_ic, Value.cells]; omega) | exact ⟨rfl⟩)) ?_
                                refine WH_guardT rfl rfl hb40.h ?_
                                refine WH_p (PS_neqA Hvad.underlying59 Hvad.underlying26 Hvad.sizeOf26 Hvad.eqGuardType59 rfl rfl (by first | omega | assumption | rfl | decide | exact Nat.le_refl _ | (simp only [size_ic, Value.cells]; omega) | simp) (by first | omega | assumption | rfl | decide | exact Nat.le_refl _ | (simp only [size_ic, Value.cells]; omega) | simp)) rfl ?_
                                refine WH_p (PS_pickF rfl hb40.h rfl) rfl ?_
                                refine WH_nil ?_
                                refine thn_normal ?_
                                refine W_if rfl (fun hb42 => ?_) (fun hb42 => ?_)
                                · have hb42p := hb42.h; try simp only [al_ete, al_dfn, Bool.not_eq_true', Bool.not_eq_false', al_ne, Bool.not_not, al_nn] at hb42p
                                  (exfalso; simp_all) --END
                                · have hb42p := hb42.h; try simp only [al_ete, al_dfn, Bool.not_eq_true', Bool.not_eq_false', al_ne, Bool.not_not, al_nn] at hb42p
                                  refine W_skip ?_
                                  refine inBlk_normal ?_
                                  refine thn_normal ?_
                                  refine W_region rfl ?_
                                  refine WO_p (PS_add_i64n rfl rfl (by omega) (by omega)) ?_
                                  refine WO_p (PS_move_int rfl) ?_
                                  refine WO_nil ?_
                                  refine thn_normal ?_
                                  exact ⟨k - 1, by omega, i + 1, by omega, ⟨rfl, rfl, congrArg (Value.int .i64) (by omega), trivial⟩, (by repeat (first | assumption | exact Ext.refl _ | refine Ext.alloc ?_ _ | refine Ext.drew ?_ | refine Ext.setB ?_ (by first | omega | (simp only [size_alloc, size_setB, size_drew]; omega)) _ | exact Ext.trans (by assumption) (by assumption) | refine Ext.trans ?_ (by assumption)))⟩
                            · have hb38p := hb38.h; try simp only [al_ete, al_dfn, Bool.not_eq_true', Bool.not_eq_false', al_ne, Bool.not_not, al_nn] at hb38p
                              refine W_exit ?_
                              refine thn_exit ?_
                              refine thn_exit ?_
                              refine inBlk_exit ?_
                              refine thn_normal ?_
                              refine W_seq ?_
                              refine W_region rfl ?_
                              refine WO_p (PS_assign_bool rfl) ?_
                              refine WO_nil ?_
                              refine thn_normal ?_
                              refine W_ret ?_
                              refine bodyQ_ret1 Hvad.results136 rfl (.bool _) rfl ?_
                              exact ⟨rfl, (by repeat (first | assumption | exact Ext.refl _ | refine Ext.alloc ?_ _ | refine Ext.drew ?_ | refine Ext.setB ?_ (by first | omega | (simp only [size_alloc, size_setB, size_drew]; omega)) _ | refine Ext.trans ?_ (by assumption)))⟩

end Go.Proofs.YgvadwGreat
