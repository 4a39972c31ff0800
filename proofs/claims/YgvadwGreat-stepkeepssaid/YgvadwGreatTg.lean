import Derived.Test.YgvadwGreatTf
namespace Go.Proofs.YgvadwGreat
set_option linter.unusedSimpArgs false
set_option linter.unusedVariables false
theorem Ck.base {v : V} {m : Mc} {n : Nat} {S : Int} (h : Ck v m n S) (hty : MTy m) {i : Nat} (hi : i < n) : ∃ x y : Int, m.base[i]? = some x ∧ m.base[i + 1]? = some y ∧ szOf m.base i = y - x ∧ x ≤ y := by
  have h7 := h.n7
  have hl := hty.base.1
  have e1 : m.base[i]? = some (m.base[i]'(by omega)) := List.getElem?_eq_getElem _
  have e2 : m.base[i + 1]? = some (m.base[i + 1]'(by omega)) := List.getElem?_eq_getElem _
  have hs := (h.bs i hi).1
  have hz : szOf m.base i = m.base[i + 1]'(by omega) - m.base[i]'(by omega) := by unfold szOf baseOf; rw [e1, e2]
  exact ⟨_, _, e1, e2, hz, by omega⟩

set_option maxRecDepth 10000 in
set_option maxHeartbeats 4000000 in
theorem bytesOf_spec (C : Nat) (c : Array Value) (v : V) (B : VB) (m : Mc) (i : Nat) (n : Nat) (S : Int) (w : World) (hM : MS w C c v B m) (hk : Ck v m n S) (hi : i < n) : Ret Hvad.prog 228 #[.pointer (some ⟨C, 0, none⟩), .int .i64 i] w fun u w' => u = .tuple #[.int .u32 (szOf m.base i), .bool true] ∧ Ext w w' := by
  have hblk := hM.vs.blk
  have hCl := hblk.lt
  have hcs := hM.sz
  have hc_s := hM.rep.s
  have hc_top := hM.rep.top
  rw [hk.top] at hc_top
  have hc_phase := hM.rep.phase
  have hn7 := hk.n7
  have hph := hk.ph
  have hpt := hM.ty.phase
  obtain ⟨x, y, hx, hy, hsz, hxy⟩ := hk.base hM.ty hi
  have hbx := (hM.openB hx).1
  have hby := (hM.openB hy).1
  have hbx2 := (hM.openB hx).2
  have hby2 := (hM.openB hy).2
  refine Ret_of_W Hvad.func228 rfl rfl ?_
  refine W_seq ?_
  refine W_region rfl ?_
  refine WO_p (PS_assign_int rfl) ?_
  refine WO_p (PS_assign_bool rfl) ?_
  refine WO_nil ?_
  refine thn_normal ?_
  refine W_seq ?_
  refine W_seq ?_
  refine W_drawE [false, false, false, false, false, false, false, false, false, false, false, false, false, false, false, false] hmix (by kernel_rfl) rfl ?_
  refine WH_p (PS_move_ptr rfl) rfl ?_
  refine WH_p (PS_move_int rfl) rfl ?_
  refine WH_p (PS_nilCheck rfl) rfl ?_
  refine WH_p (PS_fieldAddr 1 Hvad.runUnderlying69 rfl Hvad.sizeOf57 rfl rfl) rfl ?_
  refine WH_p (PS_fieldAddr 1 Hvad.runUnderlying57 rfl Hvad.sizeOf55 rfl rfl) rfl ?_
  refine WH_p (PS_indexA Hvad.runUnderlying55 Hvad.sizeOf54 rfl rfl (by omega) (by omega)) rfl ?_
  rw [show ((i : Int)).toNat = i by omega]
  refine WH_load (.int _ _) Hvad.isAgg54 rfl (Hb.h (by repeat (first | assumption | exact Hb.newY _ _ | refine Hb.alloc ?_ | refine Hb.drew ?_ | refine Hb.ext (by assumption) ?_ | exact Hb.setSameL (by first | omega | (simp only [size_alloc, size_setB, size_drew]; omega)) | exact Hb.setSame (by assumption) | refine Hb.set (by first | omega | (simp only [size_alloc, size_setB, size_drew]; omega)) ?_ ))) (Ce.h (by first | assumption | exact ⟨rfl⟩)) ?_
  refine WH_p (PS_move_ptr rfl) rfl ?_
  refine WH_p (PS_move_int rfl) rfl ?_
  refine WH_p (PS_add_i64n rfl rfl (by omega) (by omega)) rfl ?_
  refine WH_p (PS_nilCheck rfl) rfl ?_
  refine WH_p (PS_fieldAddr 1 Hvad.runUnderlying69 rfl Hvad.sizeOf57 rfl rfl) rfl ?_
  refine WH_p (PS_fieldAddr 1 Hvad.runUnderlying57 rfl Hvad.sizeOf55 rfl rfl) rfl ?_
  refine WH_p (PS_indexA Hvad.runUnderlying55 Hvad.sizeOf54 rfl rfl (by omega) (by omega)) rfl ?_
  rw [show ((i : Int) + 1).toNat = i + 1 by omega]
  refine WH_load (.int _ _) Hvad.isAgg54 rfl (Hb.h (by repeat (first | assumption | exact Hb.newY _ _ | refine Hb.alloc ?_ | refine Hb.drew ?_ | refine Hb.ext (by assumption) ?_ | exact Hb.setSameL (by first | omega | (simp only [size_alloc, size_setB, size_drew]; omega)) | exact Hb.setSame (by assumption) | refine Hb.set (by first | omega | (simp only [size_alloc, size_setB, size_drew]; omega)) ?_ ))) (Ce.h (by first | assumption | exact ⟨rfl⟩)) ?_
  refine WH_p (PS_gtr rfl rfl) rfl ?_
  refine WH_nil ?_
  refine thn_normal ?_
  refine W_if rfl (fun hb2 => ?_) (fun hb2 => ?_)
  · have hb2p := hb2.h; try simp only [al_ete, al_dfn, Bool.not_eq_true', Bool.not_eq_false', al_ne, Bool.not_not, al_nn] at hb2p
    (exfalso; omega) --END
  · have hb2p := hb2.h; try simp only [al_ete, al_dfn, Bool.not_eq_true', Bool.not_eq_false', al_ne, Bool.not_not, al_nn] at hb2p
    refine W_skip ?_
    refine thn_normal ?_
    refine W_seq ?_
    refine W_drawE [false, false, false, false, false, false, false, false, false, false, false, false, false, false, false, false, false, false] hmix (by kernel_rfl) rfl ?_
    refine WH_p (PS_move_ptr rfl) rfl ?_
    refine WH_p (PS_move_int rfl) rfl ?_
    refine WH_p (PS_add_i64n rfl rfl (by omega) (by omega)) rfl ?_
    refine WH_p (PS_nilCheck rfl) rfl ?_
    refine WH_p (PS_fieldAddr 1 Hvad.runUnderlying69 rfl Hvad.sizeOf57 rfl rfl) rfl ?_
    refine WH_p (PS_fieldAddr 1 Hvad.runUnderlying57 rfl Hvad.sizeOf55 rfl rfl) rfl ?_
    refine WH_p (PS_indexA Hvad.runUnderlying55 Hvad.sizeOf54 rfl rfl (by omega) (by omega)) rfl ?_
    rw [show ((i : Int) + 1).toNat = i + 1 by omega]
    refine WH_load (.int _ _) Hvad.isAgg54 rfl (Hb.h (by repeat (first | assumption | exact Hb.newY _ _ | refine Hb.alloc ?_ | refine Hb.drew ?_ | refine Hb.ext (by assumption) ?_ | exact Hb.setSameL (by first | omega | (simp only [size_alloc, size_setB, size_drew]; omega)) | exact Hb.setSame (by assumption) | refine Hb.set (by first | omega | (simp only [size_alloc, size_setB, size_drew]; omega)) ?_ ))) (Ce.h (by first | assumption | exact ⟨rfl⟩)) ?_
    refine WH_p (PS_move_ptr rfl) rfl ?_
    refine WH_p (PS_move_int rfl) rfl ?_
    refine WH_p (PS_nilCheck rfl) rfl ?_
    refine WH_p (PS_fieldAddr 1 Hvad.runUnderlying69 rfl Hvad.sizeOf57 rfl rfl) rfl ?_
    refine WH_p (PS_fieldAddr 1 Hvad.runUnderlying57 rfl Hvad.sizeOf55 rfl rfl) rfl ?_
    refine WH_p (PS_indexA Hvad.runUnderlying55 Hvad.sizeOf54 rfl rfl (by omega) (by omega)) rfl ?_
    rw [show ((i : Int)).toNat = i by omega]
    refine WH_load (.int _ _) Hvad.isAgg54 rfl (Hb.h (by repeat (first | assumption | exact Hb.newY _ _ | refine Hb.alloc ?_ | refine Hb.drew ?_ | refine Hb.ext (by assumption) ?_ | exact Hb.setSameL (by first | omega | (simp only [size_alloc, size_setB, size_drew]; omega)) | exact Hb.setSame (by assumption) | refine Hb.set (by first | omega | (simp only [size_alloc, size_setB, size_drew]; omega)) ?_ ))) (Ce.h (by first | assumption | exact ⟨rfl⟩)) ?_
    refine WH_p (PS_sub_u32n rfl rfl (by omega) (by omega)) rfl ?_
    refine WH_p (PS_assign_int rfl) rfl ?_
    refine WH_p (PS_assign_bool rfl) rfl ?_
    refine WH_nil ?_
    refine thn_normal ?_
    refine W_ret ?_
    refine bodyQ_ret2 Hvad.results228 rfl rfl (.int _ _) (.bool _) rfl rfl ?_
    exact ⟨by rw [hsz], (by repeat (first | assumption | exact Ext.refl _ | refine Ext.alloc ?_ _ | refine Ext.drew ?_ | refine Ext.setB ?_ (by first | omega | (simp only [size_alloc, size_setB, size_drew]; omega)) _ | refine Ext.trans ?_ (by assumption)))⟩

set_option maxRecDepth 10000 in
set_option maxHeartbeats 4000000 in
theorem waitingOK_spec (C : Nat) (c : Array Value) (v : V) (B : VB) (m : Mc) (n : Nat) (S : Int) (w : World) (hM : MS w C c v B m) (hk : Ck v m n S) : Ret Hvad.prog 138 #[.pointer (some ⟨C, 0, none⟩)] w fun u w' => u = .bool true ∧ Ext w w' := by
  have hblk := hM.vs.blk
  have hCl := hblk.lt
  have hcs := hM.sz
  have hc_s := hM.rep.s
  have hc_top := hM.rep.top
  rw [hk.top] at hc_top
  have hc_phase := hM.rep.phase
  have hn7 := hk.n7
  have hph := hk.ph
  have hpt := hM.ty.phase
  
  refine Ret_of_W Hvad.func138 rfl rfl ?_
  refine W_seq ?_
  refine W_region rfl ?_
  refine WO_p (PS_assign_bool rfl) ?_
  refine WO_nil ?_
  refine thn_normal ?_
  refine W_seq ?_
  refine W_seq ?_
  refine W_region rfl ?_
  refine WO_p (PS_assign_int rfl) ?_
  refine WO_nil ?_
  refine thn_normal ?_
  refine W_block ?_
  refine W_loopN (fun k ρ w' => ∃ (i : Nat), i + k = n - 1 ∧ Fr [(0, .pointer (some ⟨C, 0, none⟩)), (3, .int .i64 i)] ρ ∧ Ext w w') (n - 1) ?_ ?_
  · exact ⟨0, by omega, ⟨rfl, rfl, trivial⟩, (by repeat (first | assumption | exact Ext.refl _ | refine Ext.alloc ?_ _ | refine Ext.drew ?_ | refine Ext.setB ?_ (by first | omega | (simp only [size_alloc, size_setB, size_drew]; omega)) _ | refine Ext.trans ?_ (by assumption)))⟩
  intro k ρ w2 hI
  obtain ⟨i, hik, hFr2, hE2⟩ := hI
  refine W_env _ hFr2 ?_
  have hz2 := hE2.1
  refine W_seq ?_
  refine W_seq ?_
  refine W_region rfl ?_
  refine WO_p (PS_move_int rfl) ?_
  refine WO_p (PS_move_ptr rfl) ?_
  refine WO_p (PS_nilCheck rfl) ?_
  refine WO_p (PS_fieldAddr 2258 Hvad.runUnderlying69 rfl Hvad.sizeOf67 rfl rfl) ?_
  refine WO_load (.int _ _) Hvad.isAgg67 rfl (Hb.h (by repeat (first | assumption | exact Hb.newY _ _ | refine Hb.alloc ?_ | refine Hb.drew ?_ | refine Hb.ext (by assumption) ?_ | exact Hb.setSameL (by first | omega | (simp only [size_alloc, size_setB, size_drew]; omega)) | exact Hb.setSame (by assumption) | refine Hb.set (by first | omega | (simp only [size_alloc, size_setB, size_drew]; omega)) ?_ ))) (Ce.h (by first | assumption | exact ⟨rfl⟩)) ?_
  refine WO_p (PS_conv_i64n Hvad.runUnderlying67 Hvad.runUnderlying3 rfl (by omega) (by omega)) ?_
  refine WO_p (PS_lss rfl rfl) ?_
  refine WO_nil ?_
  refine thn_normal ?_
  refine W_if rfl (fun hb2 => ?_) (fun hb2 => ?_)
  · have hb2p := hb2.h; try simp only [al_ete, al_dfn, Bool.not_eq_true', Bool.not_eq_false', al_ne, Bool.not_not, al_nn] at hb2p
    obtain ⟨fi, hfi⟩ := frames_lt hM.ty (i := i) (by omega)
    obtain ⟨gi, hgi⟩ := frames_lt hM.ty (i := i + 1) (by omega)
    obtain ⟨_, hftyi, hFi⟩ := hM.openF hfi
    obtain ⟨_, hgtyi, hGi⟩ := hM.openF hgi
    have hf_pc := hFi.pc
    have hf_code := hFi.code
    have hf_sp := hFi.sp
    have hf_ol := hFi.outLen
    have hf_oo := hFi.outOff
    have hg_kind := hGi.kind
    have hkt := hgtyi.kind
    have hW := hk.wt i fi gi (by omega) hfi hgi
    have hwpc := hW.pc
    have hwkd := hW.kd
    have hwsp := hW.sp
    have hpct := hftyi.pc
    have holt := hftyi.outLen
    have hoot := hftyi.outOff
    have hbx := (hM.code fi (List.mem_of_getElem? hfi)).1
    have hbl := hbx.len
    obtain ⟨bc, rc, fzc, hc1, hc2, hc3, hc4, hc5, hc6, hc7⟩ := hbx.resolve_left (fun h => by have := h.2.1; omega)
    rw [hc1] at hf_code
    have hopx : Ce rc (0 + fi.pc.toNat * 1) (.int .u8 (kindOpW gi.kind)) := by
      have h := hc7 fi.pc.toNat (by omega)
      have e : fi.cb[fi.pc.toNat]? = some (kindOpW gi.kind) := by rw [← hW.op, List.getD_eq_getElem?_getD, List.getElem?_eq_getElem (by omega)]; rfl
      rw [e] at h
      exact ⟨by simpa using h⟩
    have hszb := hk.bs i (by omega)
    refine W_skip ?_
    refine thn_normal ?_
    refine W_seq ?_
    refine W_block ?_
    refine W_seq ?_
    refine W_region rfl ?_
    refine WO_p (PS_move_ptr rfl) ?_
    refine WO_p (PS_move_int rfl) ?_
    refine WO_p (PS_nilCheck rfl) ?_
    refine WO_p (PS_fieldAddr 1803 Hvad.runUnderlying69 rfl Hvad.sizeOf66 rfl rfl) ?_
    refine WO_p (PS_indexA Hvad.runUnderlying66 Hvad.sizeOf65 rfl rfl (by omega) (by omega)) ?_
    rw [show ((i : Int)).toNat = i by omega]
    refine WO_p (PS_assign_ptr rfl) ?_
    refine WO_nil ?_
    refine thn_normal ?_
    refine W_seq ?_
    refine W_region rfl ?_
    refine WO_p (PS_move_ptr rfl) ?_
    refine WO_p (PS_move_int rfl) ?_
    refine WO_p (PS_add_i64n rfl rfl (by omega) (by omega)) ?_
    refine WO_p (PS_nilCheck rfl) ?_
    refine WO_p (PS_fieldAddr 1803 Hvad.runUnderlying69 rfl Hvad.sizeOf66 rfl rfl) ?_
    refine WO_p (PS_indexA Hvad.runUnderlying66 Hvad.sizeOf65 rfl rfl (by omega) (by omega)) ?_
    rw [show ((i : Int) + 1).toNat = i + 1 by omega]
    refine WO_p (PS_fieldAddr 0 Hvad.runUnderlying65 rfl Hvad.sizeOf5 rfl rfl) ?_
    refine WO_load (.int _ _) Hvad.isAgg5 rfl (Hb.h (by repeat (first | assumption | exact Hb.newY _ _ | refine Hb.alloc ?_ | refine Hb.drew ?_ | refine Hb.ext (by assumption) ?_ | exact Hb.setSameL (by first | omega | (simp only [size_alloc, size_setB, size_drew]; omega)) | exact Hb.setSame (by assumption) | refine Hb.set (by first | omega | (simp only [size_alloc, size_setB, size_drew]; omega)) ?_ ))) (Ce.h (by first | assumption | exact ⟨rfl⟩)) ?_
    refine WO_p (PS_assign_int rfl) ?_
    refine WO_nil ?_
    refine thn_normal ?_
    refine W_seq ?_
    refine W_region rfl ?_
    refine WO_p (PS_move_ptr rfl) ?_
    refine WO_p (PS_move_int rfl) ?_
    refine WO_call Hvad.call228 (by rfl) (Ret.mono (bytesOf_spec C c v B m i n S _ (MS.ext hM (by repeat (first | assumption | exact Ext.refl _ | refine Ext.alloc ?_ _ | refine Ext.drew ?_ | refine Ext.setB ?_ (by first | omega | (simp only [size_alloc, size_setB, size_drew]; omega)) _ | exact Ext.trans (by assumption) (by assumption) | refine Ext.trans ?_ (by assumption)))) hk (by omega)) ?_)
    rintro _ w228_2 ⟨rfl, hE228_2⟩
    have hz228_2 := hE228_2.1
    try simp only [size_alloc, size_setB, size_drew] at hz228_2
    refine WO_p (PS_move_tuple rfl) ?_
    refine WO_p (PS_extract_int rfl rfl) ?_
    refine WO_p (PS_extract_bool rfl rfl) ?_
    refine WO_p (PS_assign_int rfl) ?_
    refine WO_p (PS_assign_bool rfl) ?_
    refine WO_nil ?_
    refine thn_normal ?_
    refine W_seq ?_
    refine W_seq ?_
    refine W_drawE [false, false, false, false, false, false, false, false, false, false, false, false, false, false, false, false, false, false, false, false, false, false, false, false, false, false, false, false, false, false, false, true, false, false, false, false, false, false, false, false, false] hmix (by kernel_rfl) rfl ?_
    refine WH_p (PS_move_bool rfl) rfl ?_
    refine WH_p (PS_not rfl) rfl ?_
    refine WH_p (PS_move_bool rfl) rfl ?_
    refine WH_if (t := 38) rfl (fun hb6 => ?_) (fun hb6 => ?_)
    · have hb6p := hb6.h; try simp only [al_ete, al_dfn, Bool.not_eq_true', Bool.not_eq_false', al_ne, Bool.not_not, al_nn] at hb6p
      simp at hb6p --END
    · have hb6p := hb6.h; try simp only [al_ete, al_dfn, Bool.not_eq_true', Bool.not_eq_false', al_ne, Bool.not_not, al_nn] at hb6p
      refine WH_guardT rfl rfl hb6.h ?_
      refine WH_p (PS_move_ptr rfl) rfl ?_
      refine WH_guardT rfl rfl hb6.h ?_
      refine WH_p (PS_nilCheck rfl) rfl ?_
      refine WH_guardT rfl rfl hb6.h ?_
      refine WH_p (PS_fieldAddr 4 Hvad.runUnderlying65 rfl Hvad.sizeOf61 rfl rfl) rfl ?_
      refine WH_guardT rfl rfl hb6.h ?_
      refine WH_load (.int _ _) Hvad.isAgg61 rfl (Hb.h (by repeat (first | assumption | exact Hb.newY _ _ | refine Hb.alloc ?_ | refine Hb.drew ?_ | refine Hb.ext (by assumption) ?_ | exact Hb.setSameL (by first | omega | (simp only [size_alloc, size_setB, size_drew]; omega)) | exact Hb.setSame (by assumption) | refine Hb.set (by first | omega | (simp only [size_alloc, size_setB, size_drew]; omega)) ?_ ))) (Ce.h (by first | assumption | exact ⟨rfl⟩)) ?_
      refine WH_guardT rfl rfl hb6.h ?_
      refine WH_p (PS_conv_i64n Hvad.runUnderlying61 Hvad.runUnderlying3 rfl (by omega) (by omega)) rfl ?_
      refine WH_guardT rfl rfl hb6.h ?_
      refine WH_p (PS_move_ptr rfl) rfl ?_
      refine WH_guardT rfl rfl hb6.h ?_
      refine WH_p (PS_nilCheck rfl) rfl ?_
      refine WH_guardT rfl rfl hb6.h ?_
      refine WH_p (PS_fieldAddr 53 Hvad.runUnderlying65 rfl Hvad.sizeOf32 rfl rfl) rfl ?_
      refine WH_guardT rfl rfl hb6.h ?_
      refine WH_load (.slice _ _ _) Hvad.isAgg32 rfl (Hb.h (by repeat (first | assumption | exact Hb.newY _ _ | refine Hb.alloc ?_ | refine Hb.drew ?_ | refine Hb.ext (by assumption) ?_ | exact Hb.setSameL (by first | omega | (simp only [size_alloc, size_setB, size_drew]; omega)) | exact Hb.setSame (by assumption) | refine Hb.set (by first | omega | (simp only [size_alloc, size_setB, size_drew]; omega)) ?_ ))) (Ce.h (by first | assumption | exact ⟨rfl⟩)) ?_
      refine WH_guardT rfl rfl hb6.h ?_
      refine WH_p (PS_lenS Hvad.runUnderlying32 rfl) rfl ?_
      refine WH_guardT rfl rfl hb6.h ?_
      refine WH_p (PS_geq rfl rfl) rfl ?_
      refine WH_p (PS_pickF rfl hb6.h rfl) rfl ?_
      refine WH_p (PS_move_bool rfl) rfl ?_
      refine WH_if (t := 51) rfl (fun hb8 => ?_) (fun hb8 => ?_)
      · have hb8p := hb8.h; try simp only [al_ete, al_dfn, Bool.not_eq_true', Bool.not_eq_false', al_ne, Bool.not_not, al_nn] at hb8p
        (exfalso; omega) --END
      · have hb8p := hb8.h; try simp only [al_ete, al_dfn, Bool.not_eq_true', Bool.not_eq_false', al_ne, Bool.not_not, al_nn] at hb8p
        refine WH_guardT rfl rfl hb8.h ?_
        refine WH_p (PS_move_int rfl) rfl ?_
        refine WH_guardT rfl rfl hb8.h ?_
        refine WH_p (PS_lss rfl rfl) rfl ?_
        refine WH_p (PS_pickF rfl hb8.h rfl) rfl ?_
        refine WH_p (PS_move_bool rfl) rfl ?_
        refine WH_if (t := 55) rfl (fun hb10 => ?_) (fun hb10 => ?_)
        · have hb10p := hb10.h; try simp only [al_ete, al_dfn, Bool.not_eq_true', Bool.not_eq_false', al_ne, Bool.not_not, al_nn] at hb10p
          (exfalso; omega) --END
        · have hb10p := hb10.h; try simp only [al_ete, al_dfn, Bool.not_eq_true', Bool.not_eq_false', al_ne, Bool.not_not, al_nn] at hb10p
          refine WH_guardT rfl rfl hb10.h ?_
          refine WH_p (PS_move_ptr rfl) rfl ?_
          refine WH_guardT rfl rfl hb10.h ?_
          refine WH_p (PS_nilCheck rfl) rfl ?_
          refine WH_guardT rfl rfl hb10.h ?_
          refine WH_p (PS_fieldAddr 53 Hvad.runUnderlying65 rfl Hvad.sizeOf32 rfl rfl) rfl ?_
          refine WH_guardT rfl rfl hb10.h ?_
          refine WH_load (.slice _ _ _) Hvad.isAgg32 rfl (Hb.h (by repeat (first | assumption | exact Hb.newY _ _ | refine Hb.alloc ?_ | refine Hb.drew ?_ | refine Hb.ext (by assumption) ?_ | exact Hb.setSameL (by first | omega | (simp only [size_alloc, size_setB, size_drew]; omega)) | exact Hb.setSame (by assumption) | refine Hb.set (by first | omega | (simp only [size_alloc, size_setB, size_drew]; omega)) ?_ ))) (Ce.h (by first | assumption | exact ⟨rfl⟩)) ?_
          refine WH_guardT rfl rfl hb10.h ?_
          refine WH_p (PS_move_ptr rfl) rfl ?_
          refine WH_guardT rfl rfl hb10.h ?_
          refine WH_p (PS_nilCheck rfl) rfl ?_
          refine WH_guardT rfl rfl hb10.h ?_
          refine WH_p (PS_fieldAddr 4 Hvad.runUnderlying65 rfl Hvad.sizeOf61 rfl rfl) rfl ?_
          refine WH_guardT rfl rfl hb10.h ?_
          refine WH_load (.int _ _) Hvad.isAgg61 rfl (Hb.h (by repeat (first | assumption | exact Hb.newY _ _ | refine Hb.alloc ?_ | refine Hb.drew ?_ | refine Hb.ext (by assumption) ?_ | exact Hb.setSameL (by first | omega | (simp only [size_alloc, size_setB, size_drew]; omega)) | exact Hb.setSame (by assumption) | refine Hb.set (by first | omega | (simp only [size_alloc, size_setB, size_drew]; omega)) ?_ ))) (Ce.h (by first | assumption | exact ⟨rfl⟩)) ?_
          refine WH_guardT rfl rfl hb10.h ?_
          refine WH_p (PS_indexS Hvad.runUnderlying32 Hvad.sizeOf5 rfl rfl (by omega) (by omega)) rfl ?_
          refine WH_guardT rfl rfl hb10.h ?_
          refine WH_load (.int _ _) Hvad.isAgg5 rfl (Hb.h (by repeat (first | assumption | exact Hb.newY _ _ | refine Hb.alloc ?_ | refine Hb.drew ?_ | refine Hb.ext (by assumption) ?_ | exact Hb.setSameL (by first | omega | (simp only [size_alloc, size_setB, size_drew]; omega)) | exact Hb.setSame (by assumption) | refine Hb.set (by first | omega | (simp only [size_alloc, size_setB, size_drew]; omega)) ?_ ))) (Ce.h (by first | assumption | exact ⟨rfl⟩)) ?_
          refine WH_guardT rfl rfl hb10.h ?_
          refine WH_p (PS_move_int rfl) rfl ?_
          refine WH_guardT rfl rfl hb10.h ?_
          refine WH_call Hvad.call229 (by rfl) (Ret.mono (kindOp_spec _ _ hkt) ?_)
          rintro _ w229_10 ⟨hE229_10, rfl⟩
          refine ⟨fun _ => (by repeat (first | assumption | exact Ext.refl _ | refine Ext.alloc ?_ _ | refine Ext.drew ?_ | refine Ext.setB ?_ (by first | omega | (simp only [size_alloc, size_setB, size_drew]; omega)) _ | exact Ext.trans (by assumption) (by assumption) | refine Ext.trans ?_ (by assumption))), ?_⟩
          have hz229_10 := hE229_10.1
          try simp only [size_alloc, size_setB, size_drew] at hz229_10
          refine WH_guardT rfl rfl hb10.h ?_
          refine WH_p (PS_neq rfl rfl) rfl ?_
          refine WH_p (PS_pickF rfl hb10.h rfl) rfl ?_
          refine WH_p (PS_move_bool rfl) rfl ?_
          refine WH_if (t := 70) rfl (fun hb13 => ?_) (fun hb13 => ?_)
          · have hb13p := hb13.h; try simp only [al_ete, al_dfn, Bool.not_eq_true', Bool.not_eq_false', al_ne, Bool.not_not, al_nn] at hb13p
            (exfalso; first | omega | simp_all) --END
          · have hb13p := hb13.h; try simp only [al_ete, al_dfn, Bool.not_eq_true', Bool.not_eq_false', al_ne, Bool.not_not, al_nn] at hb13p
            refine WH_guardT rfl rfl hb13.h ?_
            refine WH_p (PS_move_ptr rfl) rfl ?_
            refine WH_guardT rfl rfl hb13.h ?_
            refine WH_p (PS_nilCheck rfl) rfl ?_
            refine WH_guardT rfl rfl hb13.h ?_
            refine WH_p (PS_fieldAddr 6 Hvad.runUnderlying65 rfl Hvad.sizeOf61 rfl rfl) rfl ?_
            refine WH_guardT rfl rfl hb13.h ?_
            refine WH_load (.int _ _) Hvad.isAgg61 rfl (Hb.h (by repeat (first | assumption | exact Hb.newY _ _ | refine Hb.alloc ?_ | refine Hb.drew ?_ | refine Hb.ext (by assumption) ?_ | exact Hb.setSameL (by first | omega | (simp only [size_alloc, size_setB, size_drew]; omega)) | exact Hb.setSame (by assumption) | refine Hb.set (by first | omega | (simp only [size_alloc, size_setB, size_drew]; omega)) ?_ ))) (Ce.h (by first | assumption | exact ⟨rfl⟩)) ?_
            refine WH_guardT rfl rfl hb13.h ?_
            refine WH_p (PS_gtr rfl rfl) rfl ?_
            refine WH_p (PS_pickF rfl hb13.h rfl) rfl ?_
            refine WH_nil ?_
            refine thn_normal ?_
            refine W_if rfl (fun hb15 => ?_) (fun hb15 => ?_)
            · have hb15p := hb15.h; try simp only [al_ete, al_dfn, Bool.not_eq_true', Bool.not_eq_false', al_ne, Bool.not_not, al_nn] at hb15p
              (exfalso; omega) --END
            · have hb15p := hb15.h; try simp only [al_ete, al_dfn, Bool.not_eq_true', Bool.not_eq_false', al_ne, Bool.not_not, al_nn] at hb15p
              refine W_skip ?_
              refine thn_normal ?_
              refine W_seq ?_
              refine W_seq ?_
              refine W_region rfl ?_
              refine WO_p (PS_move_ptr rfl) ?_
              refine WO_p (PS_nilCheck rfl) ?_
              refine WO_p (PS_fieldAddr 64 Hvad.runUnderlying65 rfl Hvad.sizeOf54 rfl rfl) ?_
              refine WO_load (.int _ _) Hvad.isAgg54 rfl (Hb.h (by repeat (first | assumption | exact Hb.newY _ _ | refine Hb.alloc ?_ | refine Hb.drew ?_ | refine Hb.ext (by assumption) ?_ | exact Hb.setSameL (by first | omega | (simp only [size_alloc, size_setB, size_drew]; omega)) | exact Hb.setSame (by assumption) | refine Hb.set (by first | omega | (simp only [size_alloc, size_setB, size_drew]; omega)) ?_ ))) (Ce.h (by first | assumption | exact ⟨rfl⟩)) ?_
              refine WO_p (PS_eql rfl rfl) ?_
              refine WO_nil ?_
              refine thn_normal ?_
              refine W_if rfl (fun hb17 => ?_) (fun hb17 => ?_)
              · have hb17p := hb17.h; try simp only [al_ete, al_dfn, Bool.not_eq_true', Bool.not_eq_false', al_ne, Bool.not_not, al_nn] at hb17p
                refine W_exit ?_
                refine thn_exit ?_
                refine inBlk_exit ?_
                refine thn_normal ?_
                refine W_region rfl ?_
                refine WO_p (PS_move_int rfl) ?_
                refine WO_p (PS_add_i64n rfl rfl (by omega) (by omega)) ?_
                refine WO_p (PS_assign_int rfl) ?_
                refine WO_nil ?_
                refine thn_normal ?_
                exact ⟨k - 1, by omega, i + 1, by omega, ⟨rfl, congrArg (Value.int .i64) (by omega), trivial⟩, (by repeat (first | assumption | exact Ext.refl _ | refine Ext.alloc ?_ _ | refine Ext.drew ?_ | refine Ext.setB ?_ (by first | omega | (simp only [size_alloc, size_setB, size_drew]; omega)) _ | exact Ext.trans (by assumption) (by assumption) | refine Ext.trans ?_ (by assumption)))⟩
              · have hb17p := hb17.h; try simp only [al_ete, al_dfn, Bool.not_eq_true', Bool.not_eq_false', al_ne, Bool.not_not, al_nn] at hb17p
                have hout := hW.out.resolve_left (by simpa using hb17p)
                refine W_skip ?_
                refine thn_normal ?_
                refine W_seq ?_
                refine W_drawE [false, true, false, false, false, false, false, false, false, false, false, false, false, false, false, false, false, false, false, false, false, false, false] hmix (by kernel_rfl) rfl ?_
                refine WH_p (PS_move_int rfl) rfl ?_
                refine WH_call Hvad.call85 (by rfl) (Ret.mono (creates_spec _ _ hkt) ?_)
                rintro _ w85_17 ⟨hE85_17, rfl⟩
                refine ⟨fun _ => (by repeat (first | assumption | exact Ext.refl _ | refine Ext.alloc ?_ _ | refine Ext.drew ?_ | refine Ext.setB ?_ (by first | omega | (simp only [size_alloc, size_setB, size_drew]; omega)) _ | exact Ext.trans (by assumption) (by assumption) | refine Ext.trans ?_ (by assumption))), ?_⟩
                have hz85_17 := hE85_17.1
                try simp only [size_alloc, size_setB, size_drew] at hz85_17
                refine WH_p (PS_move_bool rfl) rfl ?_
                refine WH_if (t := 84) rfl (fun hb20 => ?_) (fun hb20 => ?_)
                · have hb20p := hb20.h; try simp only [al_ete, al_dfn, Bool.not_eq_true', Bool.not_eq_false', al_ne, Bool.not_not, al_nn] at hb20p
                  (exfalso; rw [hout.1] at hb20p; cases hb20p) --END
                · have hb20p := hb20.h; try simp only [al_ete, al_dfn, Bool.not_eq_true', Bool.not_eq_false', al_ne, Bool.not_not, al_nn] at hb20p
                  refine WH_guardT rfl rfl hb20.h ?_
                  refine WH_p (PS_move_ptr rfl) rfl ?_
                  refine WH_guardT rfl rfl hb20.h ?_
                  refine WH_p (PS_nilCheck rfl) rfl ?_
                  refine WH_guardT rfl rfl hb20.h ?_
                  refine WH_p (PS_fieldAddr 64 Hvad.runUnderlying65 rfl Hvad.sizeOf54 rfl rfl) rfl ?_
                  refine WH_guardT rfl rfl hb20.h ?_
                  refine WH_load (.int _ _) Hvad.isAgg54 rfl (Hb.h (by repeat (first | assumption | exact Hb.newY _ _ | refine Hb.alloc ?_ | refine Hb.drew ?_ | refine Hb.ext (by assumption) ?_ | exact Hb.setSameL (by first | omega | (simp only [size_alloc, size_setB, size_drew]; omega)) | exact Hb.setSame (by assumption) | refine Hb.set (by first | omega | (simp only [size_alloc, size_setB, size_drew]; omega)) ?_ ))) (Ce.h (by first | assumption | exact ⟨rfl⟩)) ?_
                  refine WH_guardT rfl rfl hb20.h ?_
                  refine WH_p (PS_move_int rfl) rfl ?_
                  refine WH_guardT rfl rfl hb20.h ?_
                  refine WH_p (PS_gtr rfl rfl) rfl ?_
                  refine WH_p (PS_pickF rfl hb20.h rfl) rfl ?_
                  refine WH_p (PS_move_bool rfl) rfl ?_
                  refine WH_if (t := 92) rfl (fun hb22 => ?_) (fun hb22 => ?_)
                  · have hb22p := hb22.h; try simp only [al_ete, al_dfn, Bool.not_eq_true', Bool.not_eq_false', al_ne, Bool.not_not, al_nn] at hb22p
                    (exfalso; omega) --END
                  · have hb22p := hb22.h; try simp only [al_ete, al_dfn, Bool.not_eq_true', Bool.not_eq_false', al_ne, Bool.not_not, al_nn] at hb22p
                    refine WH_guardT rfl rfl hb22.h ?_
                    refine WH_p (PS_move_ptr rfl) rfl ?_
                    refine WH_guardT rfl rfl hb22.h ?_
                    refine WH_p (PS_nilCheck rfl) rfl ?_
                    refine WH_guardT rfl rfl hb22.h ?_
                    refine WH_p (PS_fieldAddr 63 Hvad.runUnderlying65 rfl Hvad.sizeOf54 rfl rfl) rfl ?_
                    refine WH_guardT rfl rfl hb22.h ?_
                    refine WH_load (.int _ _) Hvad.isAgg54 rfl (Hb.h (by repeat (first | assumption | exact Hb.newY _ _ | refine Hb.alloc ?_ | refine Hb.drew ?_ | refine Hb.ext (by assumption) ?_ | exact Hb.setSameL (by first | omega | (simp only [size_alloc, size_setB, size_drew]; omega)) | exact Hb.setSame (by assumption) | refine Hb.set (by first | omega | (simp only [size_alloc, size_setB, size_drew]; omega)) ?_ ))) (Ce.h (by first | assumption | exact ⟨rfl⟩)) ?_
                    refine WH_guardT rfl rfl hb22.h ?_
                    refine WH_p (PS_move_int rfl) rfl ?_
                    refine WH_guardT rfl rfl hb22.h ?_
                    refine WH_p (PS_move_ptr rfl) rfl ?_
                    refine WH_guardT rfl rfl hb22.h ?_
                    refine WH_p (PS_nilCheck rfl) rfl ?_
                    refine WH_guardT rfl rfl hb22.h ?_
                    refine WH_p (PS_fieldAddr 64 Hvad.runUnderlying65 rfl Hvad.sizeOf54 rfl rfl) rfl ?_
                    refine WH_guardT rfl rfl hb22.h ?_
                    refine WH_load (.int _ _) Hvad.isAgg54 rfl (Hb.h (by repeat (first | assumption | exact Hb.newY _ _ | refine Hb.alloc ?_ | refine Hb.drew ?_ | refine Hb.ext (by assumption) ?_ | exact Hb.setSameL (by first | omega | (simp only [size_alloc, size_setB, size_drew]; omega)) | exact Hb.setSame (by assumption) | refine Hb.set (by first | omega | (simp only [size_alloc, size_setB, size_drew]; omega)) ?_ ))) (Ce.h (by first | assumption | exact ⟨rfl⟩)) ?_
                    refine WH_guardT rfl rfl hb22.h ?_
                    refine WH_p (PS_sub_u32n rfl rfl (by omega) (by omega)) rfl ?_
                    refine WH_guardT rfl rfl hb22.h ?_
                    refine WH_p (PS_gtr rfl rfl) rfl ?_
                    refine WH_p (PS_pickF rfl hb22.h rfl) rfl ?_
                    refine WH_nil ?_
                    refine thn_normal ?_
                    refine W_if rfl (fun hb24 => ?_) (fun hb24 => ?_)
                    · have hb24p := hb24.h; try simp only [al_ete, al_dfn, Bool.not_eq_true', Bool.not_eq_false', al_ne, Bool.not_not, al_nn] at hb24p
                      (exfalso; first | omega | simp_all) --END
                    · have hb24p := hb24.h; try simp only [al_ete, al_dfn, Bool.not_eq_true', Bool.not_eq_false', al_ne, Bool.not_not, al_nn] at hb24p
                      refine W_skip ?_
                      refine inBlk_normal ?_
                      refine thn_normal ?_
                      refine W_region rfl ?_
                      refine WO_p (PS_move_int rfl) ?_
                      refine WO_p (PS_add_i64n rfl rfl (by omega) (by omega)) ?_
                      refine WO_p (PS_assign_int rfl) ?_
                      refine WO_nil ?_
                      refine thn_normal ?_
                      exact ⟨k - 1, by omega, i + 1, by omega, ⟨rfl, congrArg (Value.int .i64) (by omega), trivial⟩, (by repeat (first | assumption | exact Ext.refl _ | refine Ext.alloc ?_ _ | refine Ext.drew ?_ | refine Ext.setB ?_ (by first | omega | (simp only [size_alloc, size_setB, size_drew]; omega)) _ | exact Ext.trans (by assumption) (by assumption) | refine Ext.trans ?_ (by assumption)))⟩
  · have hb2p := hb2.h; try simp only [al_ete, al_dfn, Bool.not_eq_true', Bool.not_eq_false', al_ne, Bool.not_not, al_nn] at hb2p
    refine W_exit ?_
    refine thn_exit ?_
    refine thn_exit ?_
    refine inBlk_exit ?_
    refine thn_normal ?_
    refine W_seq ?_
    refine W_region rfl ?_
    refine WO_p (PS_assign_bool rfl) ?_
    refine WO_nil ?_
    refine thn_normal ?_
    refine W_ret ?_
    refine bodyQ_ret1 Hvad.results138 rfl (.bool _) rfl ?_
    exact ⟨rfl, (by repeat (first | assumption | exact Ext.refl _ | refine Ext.alloc ?_ _ | refine Ext.drew ?_ | refine Ext.setB ?_ (by first | omega | (simp only [size_alloc, size_setB, size_drew]; omega)) _ | refine Ext.trans ?_ (by assumption)))⟩

set_option maxRecDepth 10000 in
set_option maxHeartbeats 4000000 in
theorem framesOK_spec (C : Nat) (c : Array Value) (v : V) (B : VB) (m : Mc) (n : Nat) (S : Int) (w : World) (hM : MS w C c v B m) (hk : Ck v m n S) : Ret Hvad.prog 137 #[.pointer (some ⟨C, 0, none⟩)] w fun u w' => u = .bool true ∧ Ext w w' := by
  have hblk := hM.vs.blk
  have hCl := hblk.lt
  have hcs := hM.sz
  have hc_s := hM.rep.s
  have hc_top := hM.rep.top
  rw [hk.top] at hc_top
  have hc_phase := hM.rep.phase
  have hn7 := hk.n7
  have hph := hk.ph
  have hpt := hM.ty.phase
  have hc_ret := hM.rep.ret
  have hrt := hk.rt
  have hc_nm : Ce c (2435 + 24579) (.int .i32 v.nmarks) := hM.vs.rep.nmarks
  have hnm := hk.nm
  have hc_or := hM.rep.origin
  have hc_cb := hM.rep.ecb
  have hort := hM.ty.origin
  have hcbt := hM.ty.ecb
  have horl := hort.1
  have hcbl := hcbt.1
  obtain ⟨f0, hf0⟩ := frames_lt hM.ty (i := 0) (by decide)
  obtain ⟨_, hfty0, hF0⟩ := hM.openF hf0
  have hf_snap0 : Ce c (1803 + (0 : Int).toNat * 65 + 8) (.int .i32 f0.snap) := hF0.snap
  refine Ret_of_W Hvad.func137 rfl rfl ?_
  refine W_seq ?_
  refine W_region rfl ?_
  refine WO_p (PS_assign_bool rfl) ?_
  refine WO_nil ?_
  refine thn_normal ?_
  refine W_seq ?_
  refine W_seq ?_
  refine W_region rfl ?_
  refine WO_p (PS_assign_int rfl) ?_
  refine WO_nil ?_
  refine thn_normal ?_
  refine W_block ?_
  refine W_loopN (fun k ρ w' => ∃ (i : Nat), i + k = n ∧ Fr [(0, .pointer (some ⟨C, 0, none⟩)), (3, .int .i64 i)] ρ ∧ Ext w w') (n) ?_ ?_
  · exact ⟨0, by omega, ⟨rfl, rfl, trivial⟩, (by repeat (first | assumption | exact Ext.refl _ | refine Ext.alloc ?_ _ | refine Ext.drew ?_ | refine Ext.setB ?_ (by first | omega | (simp only [size_alloc, size_setB, size_drew]; omega)) _ | refine Ext.trans ?_ (by assumption)))⟩
  intro k ρ w2 hI
  obtain ⟨i, hik, hFr2, hE2⟩ := hI
  refine W_env _ hFr2 ?_
  have hz2 := hE2.1
  refine W_seq ?_
  refine W_seq ?_
  refine W_region rfl ?_
  refine WO_p (PS_move_int rfl) ?_
  refine WO_p (PS_move_ptr rfl) ?_
  refine WO_p (PS_nilCheck rfl) ?_
  refine WO_p (PS_fieldAddr 2258 Hvad.runUnderlying69 rfl Hvad.sizeOf67 rfl rfl) ?_
  refine WO_load (.int _ _) Hvad.isAgg67 rfl (Hb.h (by repeat (first | assumption | exact Hb.newY _ _ | refine Hb.alloc ?_ | refine Hb.drew ?_ | refine Hb.ext (by assumption) ?_ | exact Hb.setSameL (by first | omega | (simp only [size_alloc, size_setB, size_drew]; omega)) | exact Hb.setSame (by assumption) | refine Hb.set (by first | omega | (simp only [size_alloc, size_setB, size_drew]; omega)) ?_ ))) (Ce.h (by first | assumption | exact ⟨rfl⟩)) ?_
  refine WO_p (PS_conv_i64n Hvad.runUnderlying67 Hvad.runUnderlying3 rfl (by omega) (by omega)) ?_
  refine WO_p (PS_leq rfl rfl) ?_
  refine WO_nil ?_
  refine thn_normal ?_
  refine W_if rfl (fun hb2 => ?_) (fun hb2 => ?_)
  · have hb2p := hb2.h; try simp only [al_ete, al_dfn, Bool.not_eq_true', Bool.not_eq_false', al_ne, Bool.not_not, al_nn] at hb2p
    obtain ⟨fi, hfi⟩ := frames_lt hM.ty (i := i) (by omega)
    obtain ⟨_, hftyi, hFi⟩ := hM.openF hfi
    have hFk := hk.fr i fi (by omega) hfi
    have hf_depth := hFi.depth
    have hf_sbase := hFi.sbase
    have hf_sp := hFi.sp
    have hf_code := hFi.code
    have hf_pc := hFi.pc
    have hf_dests := hFi.dests
    have hf_input := hFi.inputY
    have hf_ntv := hFi.ntv
    have hf_kind := hFi.kind
    have hf_self := hFi.self
    have hkt := hftyi.kind
    have hk1 := hFk.depth
    have hk2 := hFk.sb
    have hk3 := hFk.sp
    have hk4 := hFk.cl
    have hk5 := hFk.pc
    have hk6 := hFk.ds
    have hk7 := hFk.il
    have hk8 := hFk.nt
    have hk9 := hFk.kd
    have hdl := hftyi.dests.1
    have hslf := hftyi.self.1
    have hpct := hftyi.pc
    have hspt := hftyi.sp
    have hdpt := hftyi.depth
    have hsbt := hftyi.sbase
    have hnat := hftyi.ntv
    have hbxi := (hM.code fi (List.mem_of_getElem? hfi)).1
    have hbl := hbxi.len
    have hsci := hbxi.sc
    have hbyi : By8 fi.cb := hbxi.by_
    refine W_skip ?_
    refine thn_normal ?_
    refine W_seq ?_
    refine W_block ?_
    refine W_seq ?_
    refine W_region rfl ?_
    refine WO_p (PS_move_ptr rfl) ?_
    refine WO_p (PS_move_int rfl) ?_
    refine WO_p (PS_nilCheck rfl) ?_
    refine WO_p (PS_fieldAddr 1803 Hvad.runUnderlying69 rfl Hvad.sizeOf66 rfl rfl) ?_
    refine WO_p (PS_indexA Hvad.runUnderlying66 Hvad.sizeOf65 rfl rfl (by omega) (by omega)) ?_
    rw [show ((i : Int)).toNat = i by omega]
    refine WO_p (PS_assign_ptr rfl) ?_
    refine WO_nil ?_
    refine thn_normal ?_
    refine W_seq ?_
    refine W_seq ?_
    refine W_region rfl ?_
    refine WO_p (PS_move_ptr rfl) ?_
    refine WO_p (PS_nilCheck rfl) ?_
    refine WO_p (PS_fieldAddr 1 Hvad.runUnderlying65 rfl Hvad.sizeOf5 rfl rfl) ?_
    refine WO_load (.int _ _) Hvad.isAgg5 rfl (Hb.h (by repeat (first | assumption | exact Hb.newY _ _ | refine Hb.alloc ?_ | refine Hb.drew ?_ | refine Hb.ext (by assumption) ?_ | exact Hb.setSameL (by first | omega | (simp only [size_alloc, size_setB, size_drew]; omega)) | exact Hb.setSame (by assumption) | refine Hb.set (by first | omega | (simp only [size_alloc, size_setB, size_drew]; omega)) ?_ ))) (Ce.h (by first | assumption | exact ⟨rfl⟩)) ?_
    refine WO_p (PS_conv_i64n Hvad.runUnderlying5 Hvad.runUnderlying3 rfl (by omega) (by omega)) ?_
    refine WO_p (PS_move_int rfl) ?_
    refine WO_p (PS_neq rfl rfl) ?_
    refine WO_p (PS_move_bool rfl) ?_
    refine WO_if (t := 26) rfl (fun hb4 => ?_) (fun hb4 => ?_)
    · have hb4p := hb4.h; try simp only [al_ete, al_dfn, Bool.not_eq_true', Bool.not_eq_false', al_ne, Bool.not_not, al_nn] at hb4p
      (exfalso; omega) --END
    · have hb4p := hb4.h; try simp only [al_ete, al_dfn, Bool.not_eq_true', Bool.not_eq_false', al_ne, Bool.not_not, al_nn] at hb4p
      refine WO_guardT rfl rfl hb4.h ?_
      refine WO_p (PS_move_ptr rfl) ?_
      refine WO_guardT rfl rfl hb4.h ?_
      refine WO_p (PS_nilCheck rfl) ?_
      refine WO_guardT rfl rfl hb4.h ?_
      refine WO_p (PS_fieldAddr 5 Hvad.runUnderlying65 rfl Hvad.sizeOf61 rfl rfl) ?_
      refine WO_guardT rfl rfl hb4.h ?_
      refine WO_load (.int _ _) Hvad.isAgg61 rfl (Hb.h (by repeat (first | assumption | exact Hb.newY _ _ | refine Hb.alloc ?_ | refine Hb.drew ?_ | refine Hb.ext (by assumption) ?_ | exact Hb.setSameL (by first | omega | (simp only [size_alloc, size_setB, size_drew]; omega)) | exact Hb.setSame (by assumption) | refine Hb.set (by first | omega | (simp only [size_alloc, size_setB, size_drew]; omega)) ?_ ))) (Ce.h (by first | assumption | exact ⟨rfl⟩)) ?_
      refine WO_guardT rfl rfl hb4.h ?_
      refine WO_p (PS_conv_i64n Hvad.runUnderlying61 Hvad.runUnderlying3 rfl (by omega) (by omega)) ?_
      refine WO_guardT rfl rfl hb4.h ?_
      refine WO_p (PS_move_int rfl) ?_
      refine WO_guardT rfl rfl hb4.h ?_
      refine WO_p (PS_mul_i64n rfl rfl (by omega) (by omega)) ?_
      refine WO_guardT rfl rfl hb4.h ?_
      refine WO_p (PS_neq rfl rfl) ?_
      refine WO_p (PS_pickF rfl hb4.h rfl) ?_
      refine WO_p (PS_move_bool rfl) ?_
      refine WO_if (t := 36) rfl (fun hb6 => ?_) (fun hb6 => ?_)
      · have hb6p := hb6.h; try simp only [al_ete, al_dfn, Bool.not_eq_true', Bool.not_eq_false', al_ne, Bool.not_not, al_nn] at hb6p
        (exfalso; omega) --END
      · have hb6p := hb6.h; try simp only [al_ete, al_dfn, Bool.not_eq_true', Bool.not_eq_false', al_ne, Bool.not_not, al_nn] at hb6p
        refine WO_guardT rfl rfl hb6.h ?_
        refine WO_p (PS_move_ptr rfl) ?_
        refine WO_guardT rfl rfl hb6.h ?_
        refine WO_p (PS_nilCheck rfl) ?_
        refine WO_guardT rfl rfl hb6.h ?_
        refine WO_p (PS_fieldAddr 6 Hvad.runUnderlying65 rfl Hvad.sizeOf61 rfl rfl) ?_
        refine WO_guardT rfl rfl hb6.h ?_
        refine WO_load (.int _ _) Hvad.isAgg61 rfl (Hb.h (by repeat (first | assumption | exact Hb.newY _ _ | refine Hb.alloc ?_ | refine Hb.drew ?_ | refine Hb.ext (by assumption) ?_ | exact Hb.setSameL (by first | omega | (simp only [size_alloc, size_setB, size_drew]; omega)) | exact Hb.setSame (by assumption) | refine Hb.set (by first | omega | (simp only [size_alloc, size_setB, size_drew]; omega)) ?_ ))) (Ce.h (by first | assumption | exact ⟨rfl⟩)) ?_
        refine WO_guardT rfl rfl hb6.h ?_
        refine WO_p (PS_gtr rfl rfl) ?_
        refine WO_p (PS_pickF rfl hb6.h rfl) ?_
        refine WO_p (PS_move_bool rfl) ?_
        refine WO_if (t := 43) rfl (fun hb8 => ?_) (fun hb8 => ?_)
        · have hb8p := hb8.h; try simp only [al_ete, al_dfn, Bool.not_eq_true', Bool.not_eq_false', al_ne, Bool.not_not, al_nn] at hb8p
          (exfalso; omega) --END
        · have hb8p := hb8.h; try simp only [al_ete, al_dfn, Bool.not_eq_true', Bool.not_eq_false', al_ne, Bool.not_not, al_nn] at hb8p
          refine WO_guardT rfl rfl hb8.h ?_
          refine WO_p (PS_move_ptr rfl) ?_
          refine WO_guardT rfl rfl hb8.h ?_
          refine WO_p (PS_nilCheck rfl) ?_
          refine WO_guardT rfl rfl hb8.h ?_
          refine WO_p (PS_fieldAddr 53 Hvad.runUnderlying65 rfl Hvad.sizeOf32 rfl rfl) ?_
          refine WO_guardT rfl rfl hb8.h ?_
          refine WO_load (.slice _ _ _) Hvad.isAgg32 rfl (Hb.h (by repeat (first | assumption | exact Hb.newY _ _ | refine Hb.alloc ?_ | refine Hb.drew ?_ | refine Hb.ext (by assumption) ?_ | exact Hb.setSameL (by first | omega | (simp only [size_alloc, size_setB, size_drew]; omega)) | exact Hb.setSame (by assumption) | refine Hb.set (by first | omega | (simp only [size_alloc, size_setB, size_drew]; omega)) ?_ ))) (Ce.h (by first | assumption | exact ⟨rfl⟩)) ?_
          refine WO_guardT rfl rfl hb8.h ?_
          refine WO_p (PS_lenS Hvad.runUnderlying32 rfl) ?_
          refine WO_guardT rfl rfl hb8.h ?_
          refine WO_p (PS_gtr rfl rfl) ?_
          refine WO_p (PS_pickF rfl hb8.h rfl) ?_
          refine WO_nil ?_
          refine thn_normal ?_
          refine W_if rfl (fun hb10 => ?_) (fun hb10 => ?_)
          · have hb10p := hb10.h; try simp only [al_ete, al_dfn, Bool.not_eq_true', Bool.not_eq_false', al_ne, Bool.not_not, al_nn] at hb10p
            (exfalso; omega) --END
          · have hb10p := hb10.h; try simp only [al_ete, al_dfn, Bool.not_eq_true', Bool.not_eq_false', al_ne, Bool.not_not, al_nn] at hb10p
            refine W_skip ?_
            refine thn_normal ?_
            refine W_seq ?_
            refine W_seq ?_
            refine W_drawE [false, false, false, false, false, false, false, false, false, false, false, false, false, false, false, false, false, false, false, false, false, true, false, false, false, false, false, false, false, false, false, false] hmix (by kernel_rfl) rfl ?_
            refine WH_p (PS_move_ptr rfl) rfl ?_
            refine WH_p (PS_nilCheck rfl) rfl ?_
            refine WH_p (PS_fieldAddr 4 Hvad.runUnderlying65 rfl Hvad.sizeOf61 rfl rfl) rfl ?_
            refine WH_load (.int _ _) Hvad.isAgg61 rfl (Hb.h (by repeat (first | assumption | exact Hb.newY _ _ | refine Hb.alloc ?_ | refine Hb.drew ?_ | refine Hb.ext (by assumption) ?_ | exact Hb.setSameL (by first | omega | (simp only [size_alloc, size_setB, size_drew]; omega)) | exact Hb.setSame (by assumption) | refine Hb.set (by first | omega | (simp only [size_alloc, size_setB, size_drew]; omega)) ?_ ))) (Ce.h (by first | assumption | exact ⟨rfl⟩)) ?_
            refine WH_p (PS_conv_i64n Hvad.runUnderlying61 Hvad.runUnderlying3 rfl (by omega) (by omega)) rfl ?_
            refine WH_p (PS_move_ptr rfl) rfl ?_
            refine WH_p (PS_nilCheck rfl) rfl ?_
            refine WH_p (PS_fieldAddr 53 Hvad.runUnderlying65 rfl Hvad.sizeOf32 rfl rfl) rfl ?_
            refine WH_load (.slice _ _ _) Hvad.isAgg32 rfl (Hb.h (by repeat (first | assumption | exact Hb.newY _ _ | refine Hb.alloc ?_ | refine Hb.drew ?_ | refine Hb.ext (by assumption) ?_ | exact Hb.setSameL (by first | omega | (simp only [size_alloc, size_setB, size_drew]; omega)) | exact Hb.setSame (by assumption) | refine Hb.set (by first | omega | (simp only [size_alloc, size_setB, size_drew]; omega)) ?_ ))) (Ce.h (by first | assumption | exact ⟨rfl⟩)) ?_
            refine WH_p (PS_lenS Hvad.runUnderlying32 rfl) rfl ?_
            refine WH_p (PS_add_i64n rfl rfl (by omega) (by omega)) rfl ?_
            refine WH_p (PS_gtr rfl rfl) rfl ?_
            refine WH_p (PS_move_bool rfl) rfl ?_
            refine WH_if (t := 63) rfl (fun hb12 => ?_) (fun hb12 => ?_)
            · have hb12p := hb12.h; try simp only [al_ete, al_dfn, Bool.not_eq_true', Bool.not_eq_false', al_ne, Bool.not_not, al_nn] at hb12p
              (exfalso; omega) --END
            · have hb12p := hb12.h; try simp only [al_ete, al_dfn, Bool.not_eq_true', Bool.not_eq_false', al_ne, Bool.not_not, al_nn] at hb12p
              refine WH_guardT rfl rfl hb12.h ?_
              refine WH_p (PS_move_ptr rfl) rfl ?_
              refine WH_guardT rfl rfl hb12.h ?_
              refine WH_p (PS_nilCheck rfl) rfl ?_
              refine WH_guardT rfl rfl hb12.h ?_
              refine WH_p (PS_fieldAddr 55 Hvad.runUnderlying65 rfl Hvad.sizeOf63 rfl rfl) rfl ?_
              refine WH_guardT rfl rfl hb12.h ?_
              refine WH_loadA _ Hvad.isAgg63 Hvad.sizeOf63 rfl (Hb.h (by repeat (first | assumption | exact Hb.newY _ _ | refine Hb.alloc ?_ | refine Hb.drew ?_ | refine Hb.ext (by assumption) ?_ | exact Hb.setSameL (by first | omega | (simp only [size_alloc, size_setB, size_drew]; omega)) | exact Hb.setSame (by assumption) | refine Hb.set (by first | omega | (simp only [size_alloc, size_setB, size_drew]; omega)) ?_ ))) (by first | omega | assumption | rfl | decide | exact Nat.le_refl _ | (simp only [size_ic, Value.cells]; omega) | simp) (Xt.h (by first | assumption | exact Xt.whole rfl rfl | exact Xt.whole rfl (by simp only [size_ic, Value.cells]; omega) | exact ⟨rfl⟩)) ?_
              refine WH_guardT rfl rfl hb12.h ?_
              refine WH_p (PS_move_ptr rfl) rfl ?_
              refine WH_guardT rfl rfl hb12.h ?_
              refine WH_p (PS_nilCheck rfl) rfl ?_
              refine WH_guardT rfl rfl hb12.h ?_
              refine WH_p (PS_fieldAddr 53 Hvad.runUnderlying65 rfl Hvad.sizeOf32 rfl rfl) rfl ?_
              refine WH_guardT rfl rfl hb12.h ?_
              refine WH_load (.slice _ _ _) Hvad.isAgg32 rfl (Hb.h (by repeat (first | assumption | exact Hb.newY _ _ | refine Hb.alloc ?_ | refine Hb.drew ?_ | refine Hb.ext (by assumption) ?_ | exact Hb.setSameL (by first | omega | (simp only [size_alloc, size_setB, size_drew]; omega)) | exact Hb.setSame (by assumption) | refine Hb.set (by first | omega | (simp only [size_alloc, size_setB, size_drew]; omega)) ?_ ))) (Ce.h (by first | assumption | exact ⟨rfl⟩)) ?_
              refine WH_guardT rfl rfl hb12.h ?_
              refine WH_call Hvad.call82 (by rfl) (Ret.mono (scan_spec fi.code fi.cb _ (SC.ext hsci (by repeat (first | assumption | exact Ext.refl _ | refine Ext.alloc ?_ _ | refine Ext.drew ?_ | refine Ext.setB ?_ (by first | omega | (simp only [size_alloc, size_setB, size_drew]; omega)) _ | exact Ext.trans (by assumption) (by assumption) | refine Ext.trans ?_ (by assumption)))) hbyi (by omega)) ?_)
              rintro _ w82_12 ⟨hE82_12, rfl, hsl, hsu⟩
              refine ⟨fun _ => (by repeat (first | assumption | exact Ext.refl _ | refine Ext.alloc ?_ _ | refine Ext.drew ?_ | refine Ext.setB ?_ (by first | omega | (simp only [size_alloc, size_setB, size_drew]; omega)) _ | exact Ext.trans (by assumption) (by assumption) | refine Ext.trans ?_ (by assumption))), ?_⟩
              have hz82_12 := hE82_12.1
              try simp only [size_alloc, size_setB, size_drew] at hz82_12
              refine WH_guardT rfl rfl hb12.h ?_
              refine WH_p (PS_neqA Hvad.underlying63 Hvad.underlying26 Hvad.sizeOf26 Hvad.eqGuardType63 rfl rfl (by first | omega | assumption | rfl | decide | exact Nat.le_refl _ | (simp only [size_ic, Value.cells]; omega) | simp) (by first | omega | assumption | rfl | decide | exact Nat.le_refl _ | (simp only [size_ic, Value.cells]; omega) | simp)) rfl ?_
              refine WH_p (PS_pickF rfl hb12.h rfl) rfl ?_
              refine WH_p (PS_move_bool rfl) rfl ?_
              refine WH_if (t := 75) rfl (fun hb15 => ?_) (fun hb15 => ?_)
              · have hb15p := hb15.h; try simp only [al_ete, al_dfn, Bool.not_eq_true', Bool.not_eq_false', al_ne, Bool.not_not, al_nn] at hb15p
                (exfalso; simp_all) --END
              · have hb15p := hb15.h; try simp only [al_ete, al_dfn, Bool.not_eq_true', Bool.not_eq_false', al_ne, Bool.not_not, al_nn] at hb15p
                refine WH_guardT rfl rfl hb15.h ?_
                refine WH_p (PS_move_ptr rfl) rfl ?_
                refine WH_guardT rfl rfl hb15.h ?_
                refine WH_p (PS_nilCheck rfl) rfl ?_
                refine WH_guardT rfl rfl hb15.h ?_
                refine WH_p (PS_fieldAddr 54 Hvad.runUnderlying65 rfl Hvad.sizeOf32 rfl rfl) rfl ?_
                refine WH_guardT rfl rfl hb15.h ?_
                refine WH_load (.slice _ _ _) Hvad.isAgg32 rfl (Hb.h (by repeat (first | assumption | exact Hb.newY _ _ | refine Hb.alloc ?_ | refine Hb.drew ?_ | refine Hb.ext (by assumption) ?_ | exact Hb.setSameL (by first | omega | (simp only [size_alloc, size_setB, size_drew]; omega)) | exact Hb.setSame (by assumption) | refine Hb.set (by first | omega | (simp only [size_alloc, size_setB, size_drew]; omega)) ?_ ))) (Ce.h (by first | assumption | exact ⟨rfl⟩)) ?_
                refine WH_guardT rfl rfl hb15.h ?_
                refine WH_p (PS_lenS Hvad.runUnderlying32 rfl) rfl ?_
                refine WH_guardT rfl rfl hb15.h ?_
                refine WH_p (PS_gtr rfl rfl) rfl ?_
                refine WH_p (PS_pickF rfl hb15.h rfl) rfl ?_
                refine WH_nil ?_
                refine thn_normal ?_
                refine W_if rfl (fun hb17 => ?_) (fun hb17 => ?_)
                · have hb17p := hb17.h; try simp only [al_ete, al_dfn, Bool.not_eq_true', Bool.not_eq_false', al_ne, Bool.not_not, al_nn] at hb17p
                  (exfalso; omega) --END
                · have hb17p := hb17.h; try simp only [al_ete, al_dfn, Bool.not_eq_true', Bool.not_eq_false', al_ne, Bool.not_not, al_nn] at hb17p
                  refine W_skip ?_
                  refine thn_normal ?_
                  refine W_seq ?_
                  refine W_seq ?_
                  refine W_region rfl ?_
                  refine WO_p (PS_move_ptr rfl) ?_
                  refine WO_p (PS_nilCheck rfl) ?_
                  refine WO_p (PS_fieldAddr 2 Hvad.runUnderlying65 rfl Hvad.sizeOf5 rfl rfl) ?_
                  refine WO_load (.int _ _) Hvad.isAgg5 rfl (Hb.h (by repeat (first | assumption | exact Hb.newY _ _ | refine Hb.alloc ?_ | refine Hb.drew ?_ | refine Hb.ext (by assumption) ?_ | exact Hb.setSameL (by first | omega | (simp only [size_alloc, size_setB, size_drew]; omega)) | exact Hb.setSame (by assumption) | refine Hb.set (by first | omega | (simp only [size_alloc, size_setB, size_drew]; omega)) ?_ ))) (Ce.h (by first | assumption | exact ⟨rfl⟩)) ?_
                  refine WO_p (PS_neq rfl rfl) ?_
                  refine WO_p (PS_move_bool rfl) ?_
                  refine WO_if (t := 88) rfl (fun hb19 => ?_) (fun hb19 => ?_)
                  · have hb19p := hb19.h; try simp only [al_ete, al_dfn, Bool.not_eq_true', Bool.not_eq_false', al_ne, Bool.not_not, al_nn] at hb19p
                    have hnn : ¬ fi.ntv = 0 := by simpa using hb19p
                    have hnt := hk8 hnn
                    refine WO_guardT rfl rfl hb19.h ?_
                    refine WO_p (PS_move_ptr rfl) ?_
                    refine WO_guardT rfl rfl hb19.h ?_
                    refine WO_p (PS_nilCheck rfl) ?_
                    refine WO_guardT rfl rfl hb19.h ?_
                    refine WO_p (PS_fieldAddr 2 Hvad.runUnderlying65 rfl Hvad.sizeOf5 rfl rfl) ?_
                    refine WO_guardT rfl rfl hb19.h ?_
                    refine WO_load (.int _ _) Hvad.isAgg5 rfl (Hb.h (by repeat (first | assumption | exact Hb.newY _ _ | refine Hb.alloc ?_ | refine Hb.drew ?_ | refine Hb.ext (by assumption) ?_ | exact Hb.setSameL (by first | omega | (simp only [size_alloc, size_setB, size_drew]; omega)) | exact Hb.setSame (by assumption) | refine Hb.set (by first | omega | (simp only [size_alloc, size_setB, size_drew]; omega)) ?_ ))) (Ce.h (by first | assumption | exact ⟨rfl⟩)) ?_
                    refine WO_guardT rfl rfl hb19.h ?_
                    refine WO_p (PS_neq rfl rfl) ?_
                    refine WO_guardT rfl rfl hb19.h ?_
                    refine WO_p (PS_move_bool rfl) ?_
                    refine WO_if (t := 94) rfl (fun hb21 => ?_) (fun hb21 => ?_)
                    · have hb21p := hb21.h; try simp only [al_ete, al_dfn, Bool.not_eq_true', Bool.not_eq_false', al_ne, Bool.not_not, al_nn] at hb21p
                      skip
                      refine WO_guardT rfl rfl hb21.h ?_
                      refine WO_p (PS_move_ptr rfl) ?_
                      refine WO_guardT rfl rfl hb21.h ?_
                      refine WO_p (PS_nilCheck rfl) ?_
                      refine WO_guardT rfl rfl hb21.h ?_
                      refine WO_p (PS_fieldAddr 2 Hvad.runUnderlying65 rfl Hvad.sizeOf5 rfl rfl) ?_
                      refine WO_guardT rfl rfl hb21.h ?_
                      refine WO_load (.int _ _) Hvad.isAgg5 rfl (Hb.h (by repeat (first | assumption | exact Hb.newY _ _ | refine Hb.alloc ?_ | refine Hb.drew ?_ | refine Hb.ext (by assumption) ?_ | exact Hb.setSameL (by first | omega | (simp only [size_alloc, size_setB, size_drew]; omega)) | exact Hb.setSame (by assumption) | refine Hb.set (by first | omega | (simp only [size_alloc, size_setB, size_drew]; omega)) ?_ ))) (Ce.h (by first | assumption | exact ⟨rfl⟩)) ?_
                      refine WO_guardT rfl rfl hb21.h ?_
                      refine WO_p (PS_neq rfl rfl) ?_
                      refine WO_guardT rfl rfl hb19.h ?_
                      refine WO_p (PS_pickT rfl hb21.h rfl) ?_
                      refine WO_guardT rfl rfl hb19.h ?_
                      refine WO_p (PS_move_bool rfl) ?_
                      refine WO_if (t := 101) rfl (fun hb23 => ?_) (fun hb23 => ?_)
                      · have hb23p := hb23.h; try simp only [al_ete, al_dfn, Bool.not_eq_true', Bool.not_eq_false', al_ne, Bool.not_not, al_nn] at hb23p
                        (exfalso; first | omega | simp_all) --END
                      · have hb23p := hb23.h; try simp only [al_ete, al_dfn, Bool.not_eq_true', Bool.not_eq_false', al_ne, Bool.not_not, al_nn] at hb23p
                        refine WO_guardT rfl rfl hb23.h ?_
                        refine WO_p (PS_move_ptr rfl) ?_
                        refine WO_guardT rfl rfl hb23.h ?_
                        refine WO_p (PS_nilCheck rfl) ?_
                        refine WO_guardT rfl rfl hb23.h ?_
                        refine WO_p (PS_fieldAddr 53 Hvad.runUnderlying65 rfl Hvad.sizeOf32 rfl rfl) ?_
                        refine WO_guardT rfl rfl hb23.h ?_
                        refine WO_load (.slice _ _ _) Hvad.isAgg32 rfl (Hb.h (by repeat (first | assumption | exact Hb.newY _ _ | refine Hb.alloc ?_ | refine Hb.drew ?_ | refine Hb.ext (by assumption) ?_ | exact Hb.setSameL (by first | omega | (simp only [size_alloc, size_setB, size_drew]; omega)) | exact Hb.setSame (by assumption) | refine Hb.set (by first | omega | (simp only [size_alloc, size_setB, size_drew]; omega)) ?_ ))) (Ce.h (by first | assumption | exact ⟨rfl⟩)) ?_
                        refine WO_guardT rfl rfl hb23.h ?_
                        refine WO_p (PS_lenS Hvad.runUnderlying32 rfl) ?_
                        refine WO_guardT rfl rfl hb23.h ?_
                        refine WO_p (PS_gtr rfl rfl) ?_
                        refine WO_guardT rfl rfl hb19.h ?_
                        refine WO_p (PS_pickF rfl hb23.h rfl) ?_
                        refine WO_guardT rfl rfl hb19.h ?_
                        refine WO_p (PS_move_bool rfl) ?_
                        refine WO_if (t := 109) rfl (fun hb25 => ?_) (fun hb25 => ?_)
                        · have hb25p := hb25.h; try simp only [al_ete, al_dfn, Bool.not_eq_true', Bool.not_eq_false', al_ne, Bool.not_not, al_nn] at hb25p
                          (exfalso; first | omega | simp_all) --END
                        · have hb25p := hb25.h; try simp only [al_ete, al_dfn, Bool.not_eq_true', Bool.not_eq_false', al_ne, Bool.not_not, al_nn] at hb25p
                          refine WO_guardT rfl rfl hb25.h ?_
                          refine WO_p (PS_move_ptr rfl) ?_
                          refine WO_guardT rfl rfl hb25.h ?_
                          refine WO_p (PS_nilCheck rfl) ?_
                          refine WO_guardT rfl rfl hb25.h ?_
                          refine WO_p (PS_fieldAddr 0 Hvad.runUnderlying65 rfl Hvad.sizeOf5 rfl rfl) ?_
                          refine WO_guardT rfl rfl hb25.h ?_
                          refine WO_load (.int _ _) Hvad.isAgg5 rfl (Hb.h (by repeat (first | assumption | exact Hb.newY _ _ | refine Hb.alloc ?_ | refine Hb.drew ?_ | refine Hb.ext (by assumption) ?_ | exact Hb.setSameL (by first | omega | (simp only [size_alloc, size_setB, size_drew]; omega)) | exact Hb.setSame (by assumption) | refine Hb.set (by first | omega | (simp only [size_alloc, size_setB, size_drew]; omega)) ?_ ))) (Ce.h (by first | assumption | exact ⟨rfl⟩)) ?_
                          refine WO_guardT rfl rfl hb25.h ?_
                          refine WO_call Hvad.call85 (by rfl) (Ret.mono (creates_spec _ _ hkt) ?_)
                          rintro _ w85_25 ⟨hE85_25, rfl⟩
                          have hz85_25 := hE85_25.1
                          try simp only [size_alloc, size_setB, size_drew] at hz85_25
                          refine WO_guardT rfl rfl hb19.h ?_
                          refine WO_p (PS_pickF rfl hb25.h rfl) ?_
                          refine WO_p (PS_pickT rfl hb19.h rfl) ?_
                          refine WO_nil ?_
                          refine thn_normal ?_
                          refine W_if rfl (fun hb27 => ?_) (fun hb27 => ?_)
                          · have hb27p := hb27.h; try simp only [al_ete, al_dfn, Bool.not_eq_true', Bool.not_eq_false', al_ne, Bool.not_not, al_nn] at hb27p
                            (exfalso; simp_all) --END
                          · have hb27p := hb27.h; try simp only [al_ete, al_dfn, Bool.not_eq_true', Bool.not_eq_false', al_ne, Bool.not_not, al_nn] at hb27p
                            refine W_skip ?_
                            refine thn_normal ?_
                            refine W_seq ?_
                            refine W_region rfl ?_
                            refine WO_p (PS_move_ptr rfl) ?_
                            refine WO_p (PS_nilCheck rfl) ?_
                            refine WO_p (PS_fieldAddr 0 Hvad.runUnderlying65 rfl Hvad.sizeOf5 rfl rfl) ?_
                            refine WO_load (.int _ _) Hvad.isAgg5 rfl (Hb.h (by repeat (first | assumption | exact Hb.newY _ _ | refine Hb.alloc ?_ | refine Hb.drew ?_ | refine Hb.ext (by assumption) ?_ | exact Hb.setSameL (by first | omega | (simp only [size_alloc, size_setB, size_drew]; omega)) | exact Hb.setSame (by assumption) | refine Hb.set (by first | omega | (simp only [size_alloc, size_setB, size_drew]; omega)) ?_ ))) (Ce.h (by first | assumption | exact ⟨rfl⟩)) ?_
                            refine WO_p (PS_gtr rfl rfl) ?_
                            refine WO_p (PS_move_bool rfl) ?_
                            refine WO_if (t := 122) rfl (fun hb29 => ?_) (fun hb29 => ?_)
                            · have hb29p := hb29.h; try simp only [al_ete, al_dfn, Bool.not_eq_true', Bool.not_eq_false', al_ne, Bool.not_not, al_nn] at hb29p
                              (exfalso; omega) --END
                            · have hb29p := hb29.h; try simp only [al_ete, al_dfn, Bool.not_eq_true', Bool.not_eq_false', al_ne, Bool.not_not, al_nn] at hb29p
                              refine WO_guardT rfl rfl hb29.h ?_
                              refine WO_p (PS_move_ptr rfl) ?_
                              refine WO_guardT rfl rfl hb29.h ?_
                              refine WO_p (PS_nilCheck rfl) ?_
                              refine WO_guardT rfl rfl hb29.h ?_
                              refine WO_p (PS_fieldAddr 0 Hvad.runUnderlying65 rfl Hvad.sizeOf5 rfl rfl) ?_
                              refine WO_guardT rfl rfl hb29.h ?_
                              refine WO_load (.int _ _) Hvad.isAgg5 rfl (Hb.h (by repeat (first | assumption | exact Hb.newY _ _ | refine Hb.alloc ?_ | refine Hb.drew ?_ | refine Hb.ext (by assumption) ?_ | exact Hb.setSameL (by first | omega | (simp only [size_alloc, size_setB, size_drew]; omega)) | exact Hb.setSame (by assumption) | refine Hb.set (by first | omega | (simp only [size_alloc, size_setB, size_drew]; omega)) ?_ ))) (Ce.h (by first | assumption | exact ⟨rfl⟩)) ?_
                              refine WO_guardT rfl rfl hb29.h ?_
                              refine WO_p (PS_leq rfl rfl) ?_
                              refine WO_guardT rfl rfl hb29.h ?_
                              refine WO_p (PS_move_int rfl) ?_
                              refine WO_guardT rfl rfl hb29.h ?_
                              refine WO_p (PS_eql rfl rfl) ?_
                              refine WO_guardT rfl rfl hb29.h ?_
                              refine WO_p (PS_neqbool Hvad.underlying4 rfl rfl) ?_
                              refine WO_p (PS_pickF rfl hb29.h rfl) ?_
                              refine WO_p (PS_move_bool rfl) ?_
                              refine WO_if (t := 132) rfl (fun hb33 => ?_) (fun hb33 => ?_)
                              · have hb33p := hb33.h; try simp only [al_ete, al_dfn, Bool.not_eq_true', Bool.not_eq_false', al_ne, Bool.not_not, al_nn] at hb33p
                                (exfalso; (have e : decide (fi.kind ≤ 1) = decide ((i : Int) = 0) := by (rw [al_dd]; omega)); rw [e] at hb33p; simp at hb33p) --END
                              · have hb33p := hb33.h; try simp only [al_ete, al_dfn, Bool.not_eq_true', Bool.not_eq_false', al_ne, Bool.not_not, al_nn] at hb33p
                                refine WO_guardT rfl rfl hb33.h ?_
                                refine WO_p (PS_move_ptr rfl) ?_
                                refine WO_guardT rfl rfl hb33.h ?_
                                refine WO_p (PS_move_ptr rfl) ?_
                                refine WO_guardT rfl rfl hb33.h ?_
                                refine WO_p (PS_nilCheck rfl) ?_
                                refine WO_guardT rfl rfl hb33.h ?_
                                refine WO_p (PS_fieldAddr 9 Hvad.runUnderlying65 rfl Hvad.sizeOf25 rfl rfl) ?_
                                refine WO_guardT rfl rfl hb33.h ?_
                                refine WO_loadA _ Hvad.isAgg25 Hvad.sizeOf25 rfl (Hb.h (by repeat (first | assumption | exact Hb.newY _ _ | refine Hb.alloc ?_ | refine Hb.drew ?_ | refine Hb.ext (by assumption) ?_ | exact Hb.setSameL (by first | omega | (simp only [size_alloc, size_setB, size_drew]; omega)) | exact Hb.setSame (by assumption) | refine Hb.set (by first | omega | (simp only [size_alloc, size_setB, size_drew]; omega)) ?_ ))) (by first | omega | assumption | rfl | decide | exact Nat.le_refl _ | (simp only [size_ic, Value.cells]; omega) | simp) (Xt.h (by first | assumption | exact Xt.whole rfl rfl | exact Xt.whole rfl (by simp only [size_ic, Value.cells]; omega) | exact ⟨rfl⟩)) ?_
                                refine WO_guardT rfl rfl hb33.h ?_
                                refine WO_call Hvad.call227 (by rfl) (Ret.mono (entered_spec C c v B m fi.self _ (MS.ext hM (by repeat (first | assumption | exact Ext.refl _ | refine Ext.alloc ?_ _ | refine Ext.drew ?_ | refine Ext.setB ?_ (by first | omega | (simp only [size_alloc, size_setB, size_drew]; omega)) _ | exact Ext.trans (by assumption) (by assumption) | refine Ext.trans ?_ (by assumption)))) hftyi.self hFk.en) ?_)
                                rintro _ w227_33 ⟨rfl, hE227_33⟩
                                have hz227_33 := hE227_33.1
                                try simp only [size_alloc, size_setB, size_drew] at hz227_33
                                refine WO_guardT rfl rfl hb33.h ?_
                                refine WO_p (PS_not rfl) ?_
                                refine WO_p (PS_pickF rfl hb33.h rfl) ?_
                                refine WO_nil ?_
                                refine thn_normal ?_
                                refine W_if rfl (fun hb37 => ?_) (fun hb37 => ?_)
                                · have hb37p := hb37.h; try simp only [al_ete, al_dfn, Bool.not_eq_true', Bool.not_eq_false', al_ne, Bool.not_not, al_nn] at hb37p
                                  (exfalso; first | omega | simp_all) --END
                                · have hb37p := hb37.h; try simp only [al_ete, al_dfn, Bool.not_eq_true', Bool.not_eq_false', al_ne, Bool.not_not, al_nn] at hb37p
                                  refine W_skip ?_
                                  refine inBlk_normal ?_
                                  refine thn_normal ?_
                                  refine W_region rfl ?_
                                  refine WO_p (PS_move_int rfl) ?_
                                  refine WO_p (PS_add_i64n rfl rfl (by omega) (by omega)) ?_
                                  refine WO_p (PS_assign_int rfl) ?_
                                  refine WO_nil ?_
                                  refine thn_normal ?_
                                  exact ⟨k - 1, by omega, i + 1, by omega, ⟨rfl, congrArg (Value.int .i64) (by omega), trivial⟩, (by repeat (first | assumption | exact Ext.refl _ | refine Ext.alloc ?_ _ | refine Ext.drew ?_ | refine Ext.setB ?_ (by first | omega | (simp only [size_alloc, size_setB, size_drew]; omega)) _ | exact Ext.trans (by assumption) (by assumption) | refine Ext.trans ?_ (by assumption)))⟩
                    · have hb21p := hb21.h; try simp only [al_ete, al_dfn, Bool.not_eq_true', Bool.not_eq_false', al_ne, Bool.not_not, al_nn] at hb21p
                      refine WO_guardF rfl rfl hb21.h ?_
                      refine WO_guardF rfl rfl hb21.h ?_
                      refine WO_guardF rfl rfl hb21.h ?_
                      refine WO_guardF rfl rfl hb21.h ?_
                      refine WO_guardF rfl rfl hb21.h ?_
                      refine WO_guardT rfl rfl hb19.h ?_
                      refine WO_p (PS_pickF rfl hb21.h rfl) ?_
                      refine WO_guardT rfl rfl hb19.h ?_
                      refine WO_p (PS_move_bool rfl) ?_
                      refine WO_guardT rfl rfl rfl ?_
                      refine WO_p (PS_move_ptr rfl) ?_
                      refine WO_guardT rfl rfl rfl ?_
                      refine WO_p (PS_nilCheck rfl) ?_
                      refine WO_guardT rfl rfl rfl ?_
                      refine WO_p (PS_fieldAddr 53 Hvad.runUnderlying65 rfl Hvad.sizeOf32 rfl rfl) ?_
                      refine WO_guardT rfl rfl rfl ?_
                      refine WO_load (.slice _ _ _) Hvad.isAgg32 rfl (Hb.h (by repeat (first | assumption | exact Hb.newY _ _ | refine Hb.alloc ?_ | refine Hb.drew ?_ | refine Hb.ext (by assumption) ?_ | exact Hb.setSameL (by first | omega | (simp only [size_alloc, size_setB, size_drew]; omega)) | exact Hb.setSame (by assumption) | refine Hb.set (by first | omega | (simp only [size_alloc, size_setB, size_drew]; omega)) ?_ ))) (Ce.h (by first | assumption | exact ⟨rfl⟩)) ?_
                      refine WO_guardT rfl rfl rfl ?_
                      refine WO_p (PS_lenS Hvad.runUnderlying32 rfl) ?_
                      refine WO_guardT rfl rfl rfl ?_
                      refine WO_p (PS_gtr rfl rfl) ?_
                      refine WO_guardT rfl rfl hb19.h ?_
                      refine WO_p (PS_pickF rfl rfl rfl) ?_
                      refine WO_guardT rfl rfl hb19.h ?_
                      refine WO_p (PS_move_bool rfl) ?_
                      refine WO_if (t := 109) rfl (fun hb39 => ?_) (fun hb39 => ?_)
                      · have hb39p := hb39.h; try simp only [al_ete, al_dfn, Bool.not_eq_true', Bool.not_eq_false', al_ne, Bool.not_not, al_nn] at hb39p
                        (exfalso; first | omega | simp_all) --END
                      · have hb39p := hb39.h; try simp only [al_ete, al_dfn, Bool.not_eq_true', Bool.not_eq_false', al_ne, Bool.not_not, al_nn] at hb39p
                        refine WO_guardT rfl rfl hb39.h ?_
                        refine WO_p (PS_move_ptr rfl) ?_
                        refine WO_guardT rfl rfl hb39.h ?_
                        refine WO_p (PS_nilCheck rfl) ?_
                        refine WO_guardT rfl rfl hb39.h ?_
                        refine WO_p (PS_fieldAddr 0 Hvad.runUnderlying65 rfl Hvad.sizeOf5 rfl rfl) ?_
                        refine WO_guardT rfl rfl hb39.h ?_
                        refine WO_load (.int _ _) Hvad.isAgg5 rfl (Hb.h (by repeat (first | assumption | exact Hb.newY _ _ | refine Hb.alloc ?_ | refine Hb.drew ?_ | refine Hb.ext (by assumption) ?_ | exact Hb.setSameL (by first | omega | (simp only [size_alloc, size_setB, size_drew]; omega)) | exact Hb.setSame (by assumption) | refine Hb.set (by first | omega | (simp only [size_alloc, size_setB, size_drew]; omega)) ?_ ))) (Ce.h (by first | assumption | exact ⟨rfl⟩)) ?_
                        refine WO_guardT rfl rfl hb39.h ?_
                        refine WO_call Hvad.call85 (by rfl) (Ret.mono (creates_spec _ _ hkt) ?_)
                        rintro _ w85_39 ⟨hE85_39, rfl⟩
                        have hz85_39 := hE85_39.1
                        try simp only [size_alloc, size_setB, size_drew] at hz85_39
                        refine WO_guardT rfl rfl hb19.h ?_
                        refine WO_p (PS_pickF rfl hb39.h rfl) ?_
                        refine WO_p (PS_pickT rfl hb19.h rfl) ?_
                        refine WO_nil ?_
                        refine thn_normal ?_
                        refine W_if rfl (fun hb41 => ?_) (fun hb41 => ?_)
                        · have hb41p := hb41.h; try simp only [al_ete, al_dfn, Bool.not_eq_true', Bool.not_eq_false', al_ne, Bool.not_not, al_nn] at hb41p
                          (exfalso; simp_all) --END
                        · have hb41p := hb41.h; try simp only [al_ete, al_dfn, Bool.not_eq_true', Bool.not_eq_false', al_ne, Bool.not_not, al_nn] at hb41p
                          refine W_skip ?_
                          refine thn_normal ?_
                          refine W_seq ?_
                          refine W_region rfl ?_
                          refine WO_p (PS_move_ptr rfl) ?_
                          refine WO_p (PS_nilCheck rfl) ?_
                          refine WO_p (PS_fieldAddr 0 Hvad.runUnderlying65 rfl Hvad.sizeOf5 rfl rfl) ?_
                          refine WO_load (.int _ _) Hvad.isAgg5 rfl (Hb.h (by repeat (first | assumption | exact Hb.newY _ _ | refine Hb.alloc ?_ | refine Hb.drew ?_ | refine Hb.ext (by assumption) ?_ | exact Hb.setSameL (by first | omega | (simp only [size_alloc, size_setB, size_drew]; omega)) | exact Hb.setSame (by assumption) | refine Hb.set (by first | omega | (simp only [size_alloc, size_setB, size_drew]; omega)) ?_ ))) (Ce.h (by first | assumption | exact ⟨rfl⟩)) ?_
                          refine WO_p (PS_gtr rfl rfl) ?_
                          refine WO_p (PS_move_bool rfl) ?_
                          refine WO_if (t := 122) rfl (fun hb43 => ?_) (fun hb43 => ?_)
                          · have hb43p := hb43.h; try simp only [al_ete, al_dfn, Bool.not_eq_true', Bool.not_eq_false', al_ne, Bool.not_not, al_nn] at hb43p
                            (exfalso; omega) --END
                          · have hb43p := hb43.h; try simp only [al_ete, al_dfn, Bool.not_eq_true', Bool.not_eq_false', al_ne, Bool.not_not, al_nn] at hb43p
                            refine WO_guardT rfl rfl hb43.h ?_
                            refine WO_p (PS_move_ptr rfl) ?_
                            refine WO_guardT rfl rfl hb43.h ?_
                            refine WO_p (PS_nilCheck rfl) ?_
                            refine WO_guardT rfl rfl hb43.h ?_
                            refine WO_p (PS_fieldAddr 0 Hvad.runUnderlying65 rfl Hvad.sizeOf5 rfl rfl) ?_
                            refine WO_guardT rfl rfl hb43.h ?_
                            refine WO_load (.int _ _) Hvad.isAgg5 rfl (Hb.h (by repeat (first | assumption | exact Hb.newY _ _ | refine Hb.alloc ?_ | refine Hb.drew ?_ | refine Hb.ext (by assumption) ?_ | exact Hb.setSameL (by first | omega | (simp only [size_alloc, size_setB, size_drew]; omega)) | exact Hb.setSame (by assumption) | refine Hb.set (by first | omega | (simp only [size_alloc, size_setB, size_drew]; omega)) ?_ ))) (Ce.h (by first | assumption | exact ⟨rfl⟩)) ?_
                            refine WO_guardT rfl rfl hb43.h ?_
                            refine WO_p (PS_leq rfl rfl) ?_
                            refine WO_guardT rfl rfl hb43.h ?_
                            refine WO_p (PS_move_int rfl) ?_
                            refine WO_guardT rfl rfl hb43.h ?_
                            refine WO_p (PS_eql rfl rfl) ?_
                            refine WO_guardT rfl rfl hb43.h ?_
                            refine WO_p (PS_neqbool Hvad.underlying4 rfl rfl) ?_
                            refine WO_p (PS_pickF rfl hb43.h rfl) ?_
                            refine WO_p (PS_move_bool rfl) ?_
                            refine WO_if (t := 132) rfl (fun hb47 => ?_) (fun hb47 => ?_)
                            · have hb47p := hb47.h; try simp only [al_ete, al_dfn, Bool.not_eq_true', Bool.not_eq_false', al_ne, Bool.not_not, al_nn] at hb47p
                              (exfalso; (have e : decide (fi.kind ≤ 1) = decide ((i : Int) = 0) := by (rw [al_dd]; omega)); rw [e] at hb47p; simp at hb47p) --END
                            · have hb47p := hb47.h; try simp only [al_ete, al_dfn, Bool.not_eq_true', Bool.not_eq_false', al_ne, Bool.not_not, al_nn] at hb47p
                              refine WO_guardT rfl rfl hb47.h ?_
                              refine WO_p (PS_move_ptr rfl) ?_
                              refine WO_guardT rfl rfl hb47.h ?_
                              refine WO_p (PS_move_ptr rfl) ?_
                              refine WO_guardT rfl rfl hb47.h ?_
                              refine WO_p (PS_nilCheck rfl) ?_
                              refine WO_guardT rfl rfl hb47.h ?_
                              refine WO_p (PS_fieldAddr 9 Hvad.runUnderlying65 rfl Hvad.sizeOf25 rfl rfl) ?_
                              refine WO_guardT rfl rfl hb47.h ?_
                              refine WO_loadA _ Hvad.isAgg25 Hvad.sizeOf25 rfl (Hb.h (by repeat (first | assumption | exact Hb.newY _ _ | refine Hb.alloc ?_ | refine Hb.drew ?_ | refine Hb.ext (by assumption) ?_ | exact Hb.setSameL (by first | omega | (simp only [size_alloc, size_setB, size_drew]; omega)) | exact Hb.setSame (by assumption) | refine Hb.set (by first | omega | (simp only [size_alloc, size_setB, size_drew]; omega)) ?_ ))) (by first | omega | assumption | rfl | decide | exact Nat.le_refl _ | (simp only [size_ic, Value.cells]; omega) | simp) (Xt.h (by first | assumption | exact Xt.whole rfl rfl | exact Xt.whole rfl (by simp only [size_ic, Value.cells]; omega) | exact ⟨rfl⟩)) ?_
                              refine WO_guardT rfl rfl hb47.h ?_
                              refine WO_call Hvad.call227 (by rfl) (Ret.mono (entered_spec C c v B m fi.self _ (MS.ext hM (by repeat (first | assumption | exact Ext.refl _ | refine Ext.alloc ?_ _ | refine Ext.drew ?_ | refine Ext.setB ?_ (by first | omega | (simp only [size_alloc, size_setB, size_drew]; omega)) _ | exact Ext.trans (by assumption) (by assumption) | refine Ext.trans ?_ (by assumption)))) hftyi.self hFk.en) ?_)
                              rintro _ w227_47 ⟨rfl, hE227_47⟩
                              have hz227_47 := hE227_47.1
                              try simp only [size_alloc, size_setB, size_drew] at hz227_47
                              refine WO_guardT rfl rfl hb47.h ?_
                              refine WO_p (PS_not rfl) ?_
                              refine WO_p (PS_pickF rfl hb47.h rfl) ?_
                              refine WO_nil ?_
                              refine thn_normal ?_
                              refine W_if rfl (fun hb51 => ?_) (fun hb51 => ?_)
                              · have hb51p := hb51.h; try simp only [al_ete, al_dfn, Bool.not_eq_true', Bool.not_eq_false', al_ne, Bool.not_not, al_nn] at hb51p
                                (exfalso; first | omega | simp_all) --END
                              · have hb51p := hb51.h; try simp only [al_ete, al_dfn, Bool.not_eq_true', Bool.not_eq_false', al_ne, Bool.not_not, al_nn] at hb51p
                                refine W_skip ?_
                                refine inBlk_normal ?_
                                refine thn_normal ?_
                                refine W_region rfl ?_
                                refine WO_p (PS_move_int rfl) ?_
                                refine WO_p (PS_add_i64n rfl rfl (by omega) (by omega)) ?_
                                refine WO_p (PS_assign_int rfl) ?_
                                refine WO_nil ?_
                                refine thn_normal ?_
                                exact ⟨k - 1, by omega, i + 1, by omega, ⟨rfl, congrArg (Value.int .i64) (by omega), trivial⟩, (by repeat (first | assumption | exact Ext.refl _ | refine Ext.alloc ?_ _ | refine Ext.drew ?_ | refine Ext.setB ?_ (by first | omega | (simp only [size_alloc, size_setB, size_drew]; omega)) _ | exact Ext.trans (by assumption) (by assumption) | refine Ext.trans ?_ (by assumption)))⟩
                  · have hb19p := hb19.h; try simp only [al_ete, al_dfn, Bool.not_eq_true', Bool.not_eq_false', al_ne, Bool.not_not, al_nn] at hb19p
                    refine WO_guardF rfl rfl hb19.h ?_
                    refine WO_guardF rfl rfl hb19.h ?_
                    refine WO_guardF rfl rfl hb19.h ?_
                    refine WO_guardF rfl rfl hb19.h ?_
                    refine WO_guardF rfl rfl hb19.h ?_
                    refine WO_guardF rfl rfl hb19.h ?_
                    refine WO_guardU rfl rfl ?_
                    refine WO_guardU rfl rfl ?_
                    refine WO_guardU rfl rfl ?_
                    refine WO_guardU rfl rfl ?_
                    refine WO_guardU rfl rfl ?_
                    refine WO_guardF rfl rfl hb19.h ?_
                    refine WO_guardF rfl rfl hb19.h ?_
                    refine WO_guardU rfl rfl ?_
                    refine WO_guardU rfl rfl ?_
                    refine WO_guardU rfl rfl ?_
                    refine WO_guardU rfl rfl ?_
                    refine WO_guardU rfl rfl ?_
                    refine WO_guardU rfl rfl ?_
                    refine WO_guardF rfl rfl hb19.h ?_
                    refine WO_guardF rfl rfl hb19.h ?_
                    refine WO_guardU rfl rfl ?_
                    refine WO_guardU rfl rfl ?_
                    refine WO_guardU rfl rfl ?_
                    refine WO_guardU rfl rfl ?_
                    refine WO_guardU rfl rfl ?_
                    refine WO_guardF rfl rfl hb19.h ?_
                    refine WO_p (PS_pickF rfl hb19.h rfl) ?_
                    refine WO_nil ?_
                    refine thn_normal ?_
                    refine W_condF rfl rfl ?_
                    refine W_skip ?_
                    refine thn_normal ?_
                    refine W_seq ?_
                    refine W_region rfl ?_
                    refine WO_p (PS_move_ptr rfl) ?_
                    refine WO_p (PS_nilCheck rfl) ?_
                    refine WO_p (PS_fieldAddr 0 Hvad.runUnderlying65 rfl Hvad.sizeOf5 rfl rfl) ?_
                    refine WO_load (.int _ _) Hvad.isAgg5 rfl (Hb.h (by repeat (first | assumption | exact Hb.newY _ _ | refine Hb.alloc ?_ | refine Hb.drew ?_ | refine Hb.ext (by assumption) ?_ | exact Hb.setSameL (by first | omega | (simp only [size_alloc, size_setB, size_drew]; omega)) | exact Hb.setSame (by assumption) | refine Hb.set (by first | omega | (simp only [size_alloc, size_setB, size_drew]; omega)) ?_ ))) (Ce.h (by first | assumption | exact ⟨rfl⟩)) ?_
                    refine WO_p (PS_gtr rfl rfl) ?_
                    refine WO_p (PS_move_bool rfl) ?_
                    refine WO_if (t := 122) rfl (fun hb53 => ?_) (fun hb53 => ?_)
                    · have hb53p := hb53.h; try simp only [al_ete, al_dfn, Bool.not_eq_true', Bool.not_eq_false', al_ne, Bool.not_not, al_nn] at hb53p
                      (exfalso; omega) --END
                    · have hb53p := hb53.h; try simp only [al_ete, al_dfn, Bool.not_eq_true', Bool.not_eq_false', al_ne, Bool.not_not, al_nn] at hb53p
                      refine WO_guardT rfl rfl hb53.h ?_
                      refine WO_p (PS_move_ptr rfl) ?_
                      refine WO_guardT rfl rfl hb53.h ?_
                      refine WO_p (PS_nilCheck rfl) ?_
                      refine WO_guardT rfl rfl hb53.h ?_
                      refine WO_p (PS_fieldAddr 0 Hvad.runUnderlying65 rfl Hvad.sizeOf5 rfl rfl) ?_
                      refine WO_guardT rfl rfl hb53.h ?_
                      refine WO_load (.int _ _) Hvad.isAgg5 rfl (Hb.h (by repeat (first | assumption | exact Hb.newY _ _ | refine Hb.alloc ?_ | refine Hb.drew ?_ | refine Hb.ext (by assumption) ?_ | exact Hb.setSameL (by first | omega | (simp only [size_alloc, size_setB, size_drew]; omega)) | exact Hb.setSame (by assumption) | refine Hb.set (by first | omega | (simp only [size_alloc, size_setB, size_drew]; omega)) ?_ ))) (Ce.h (by first | assumption | exact ⟨rfl⟩)) ?_
                      refine WO_guardT rfl rfl hb53.h ?_
                      refine WO_p (PS_leq rfl rfl) ?_
                      refine WO_guardT rfl rfl hb53.h ?_
                      refine WO_p (PS_move_int rfl) ?_
                      refine WO_guardT rfl rfl hb53.h ?_
                      refine WO_p (PS_eql rfl rfl) ?_
                      refine WO_guardT rfl rfl hb53.h ?_
                      refine WO_p (PS_neqbool Hvad.underlying4 rfl rfl) ?_
                      refine WO_p (PS_pickF rfl hb53.h rfl) ?_
                      refine WO_p (PS_move_bool rfl) ?_
                      refine WO_if (t := 132) rfl (fun hb57 => ?_) (fun hb57 => ?_)
                      · have hb57p := hb57.h; try simp only [al_ete, al_dfn, Bool.not_eq_true', Bool.not_eq_false', al_ne, Bool.not_not, al_nn] at hb57p
                        (exfalso; (have e : decide (fi.kind ≤ 1) = decide ((i : Int) = 0) := by (rw [al_dd]; omega)); rw [e] at hb57p; simp at hb57p) --END
                      · have hb57p := hb57.h; try simp only [al_ete, al_dfn, Bool.not_eq_true', Bool.not_eq_false', al_ne, Bool.not_not, al_nn] at hb57p
                        refine WO_guardT rfl rfl hb57.h ?_
                        refine WO_p (PS_move_ptr rfl) ?_
                        refine WO_guardT rfl rfl hb57.h ?_
                        refine WO_p (PS_move_ptr rfl) ?_
                        refine WO_guardT rfl rfl hb57.h ?_
                        refine WO_p (PS_nilCheck rfl) ?_
                        refine WO_guardT rfl rfl hb57.h ?_
                        refine WO_p (PS_fieldAddr 9 Hvad.runUnderlying65 rfl Hvad.sizeOf25 rfl rfl) ?_
                        refine WO_guardT rfl rfl hb57.h ?_
                        refine WO_loadA _ Hvad.isAgg25 Hvad.sizeOf25 rfl (Hb.h (by repeat (first | assumption | exact Hb.newY _ _ | refine Hb.alloc ?_ | refine Hb.drew ?_ | refine Hb.ext (by assumption) ?_ | exact Hb.setSameL (by first | omega | (simp only [size_alloc, size_setB, size_drew]; omega)) | exact Hb.setSame (by assumption) | refine Hb.set (by first | omega | (simp only [size_alloc, size_setB, size_drew]; omega)) ?_ ))) (by first | omega | assumption | rfl | decide | exact Nat.le_refl _ | (simp only [size_ic, Value.cells]; omega) | simp) (Xt.h (by first | assumption | exact Xt.whole rfl rfl | exact Xt.whole rfl (by simp only [size_ic, Value.cells]; omega) | exact ⟨rfl⟩)) ?_
                        refine WO_guardT rfl rfl hb57.h ?_
                        refine WO_call Hvad.call227 (by rfl) (Ret.mono (entered_spec C c v B m fi.self _ (MS.ext hM (by repeat (first | assumption | exact Ext.refl _ | refine Ext.alloc ?_ _ | refine Ext.drew ?_ | refine Ext.setB ?_ (by first | omega | (simp only [size_alloc, size_setB, size_drew]; omega)) _ | exact Ext.trans (by assumption) (by assumption) | refine Ext.trans ?_ (by assumption)))) hftyi.self hFk.en) ?_)
                        rintro _ w227_57 ⟨rfl, hE227_57⟩
                        have hz227_57 := hE227_57.1
                        try simp only [size_alloc, size_setB, size_drew] at hz227_57
                        refine WO_guardT rfl rfl hb57.h ?_
                        refine WO_p (PS_not rfl) ?_
                        refine WO_p (PS_pickF rfl hb57.h rfl) ?_
                        refine WO_nil ?_
                        refine thn_normal ?_
                        refine W_if rfl (fun hb61 => ?_) (fun hb61 => ?_)
                        · have hb61p := hb61.h; try simp only [al_ete, al_dfn, Bool.not_eq_true', Bool.not_eq_false', al_ne, Bool.not_not, al_nn] at hb61p
                          (exfalso; first | omega | simp_all) --END
                        · have hb61p := hb61.h; try simp only [al_ete, al_dfn, Bool.not_eq_true', Bool.not_eq_false', al_ne, Bool.not_not, al_nn] at hb61p
                          refine W_skip ?_
                          refine inBlk_normal ?_
                          refine thn_normal ?_
                          refine W_region rfl ?_
                          refine WO_p (PS_move_int rfl) ?_
                          refine WO_p (PS_add_i64n rfl rfl (by omega) (by omega)) ?_
                          refine WO_p (PS_assign_int rfl) ?_
                          refine WO_nil ?_
                          refine thn_normal ?_
                          exact ⟨k - 1, by omega, i + 1, by omega, ⟨rfl, congrArg (Value.int .i64) (by omega), trivial⟩, (by repeat (first | assumption | exact Ext.refl _ | refine Ext.alloc ?_ _ | refine Ext.drew ?_ | refine Ext.setB ?_ (by first | omega | (simp only [size_alloc, size_setB, size_drew]; omega)) _ | exact Ext.trans (by assumption) (by assumption) | refine Ext.trans ?_ (by assumption)))⟩
  · have hb2p := hb2.h; try simp only [al_ete, al_dfn, Bool.not_eq_true', Bool.not_eq_false', al_ne, Bool.not_not, al_nn] at hb2p
    refine W_exit ?_
    refine thn_exit ?_
    refine thn_exit ?_
    refine inBlk_exit ?_
    refine thn_normal ?_
    refine W_seq ?_
    refine W_seq ?_
    refine W_region rfl ?_
    refine WO_p (PS_move_ptr rfl) ?_
    refine WO_p (PS_nilCheck rfl) ?_
    refine WO_p (PS_fieldAddr 2259 Hvad.runUnderlying69 rfl Hvad.sizeOf32 rfl rfl) ?_
    refine WO_load (.slice _ _ _) Hvad.isAgg32 rfl (Hb.h (by repeat (first | assumption | exact Hb.newY _ _ | refine Hb.alloc ?_ | refine Hb.drew ?_ | refine Hb.ext (by assumption) ?_ | exact Hb.setSameL (by first | omega | (simp only [size_alloc, size_setB, size_drew]; omega)) | exact Hb.setSame (by assumption) | refine Hb.set (by first | omega | (simp only [size_alloc, size_setB, size_drew]; omega)) ?_ ))) (Ce.h (by first | assumption | exact ⟨rfl⟩)) ?_
    refine WO_p (PS_lenS Hvad.runUnderlying32 rfl) ?_
    refine WO_p (PS_gtr rfl rfl) ?_
    refine WO_nil ?_
    refine thn_normal ?_
    refine W_if rfl (fun hb63 => ?_) (fun hb63 => ?_)
    · have hb63p := hb63.h; try simp only [al_ete, al_dfn, Bool.not_eq_true', Bool.not_eq_false', al_ne, Bool.not_not, al_nn] at hb63p
      (exfalso; omega) --END
    · have hb63p := hb63.h; try simp only [al_ete, al_dfn, Bool.not_eq_true', Bool.not_eq_false', al_ne, Bool.not_not, al_nn] at hb63p
      refine W_skip ?_
      refine thn_normal ?_
      refine W_seq ?_
      refine W_seq ?_
      refine W_drawE [false, false, false, false, false, false, false, false, false, false, false, false, false, false, false, false, false, false, false, false, false, false, false, false, false, false, false, false, false, false] hmix (by kernel_rfl) rfl ?_
      refine WH_p (PS_move_ptr rfl) rfl ?_
      refine WH_p (PS_nilCheck rfl) rfl ?_
      refine WH_p (PS_fieldAddr 2404 Hvad.runUnderlying69 rfl Hvad.sizeOf5 rfl rfl) rfl ?_
      refine WH_load (.int _ _) Hvad.isAgg5 rfl (Hb.h (by repeat (first | assumption | exact Hb.newY _ _ | refine Hb.alloc ?_ | refine Hb.drew ?_ | refine Hb.ext (by assumption) ?_ | exact Hb.setSameL (by first | omega | (simp only [size_alloc, size_setB, size_drew]; omega)) | exact Hb.setSame (by assumption) | refine Hb.set (by first | omega | (simp only [size_alloc, size_setB, size_drew]; omega)) ?_ ))) (Ce.h (by first | assumption | exact ⟨rfl⟩)) ?_
      refine WH_p (PS_eql rfl rfl) rfl ?_
      refine WH_p (PS_move_bool rfl) rfl ?_
      refine WH_if (t := 152) rfl (fun hb65 => ?_) (fun hb65 => ?_)
      · have hb65p := hb65.h; try simp only [al_ete, al_dfn, Bool.not_eq_true', Bool.not_eq_false', al_ne, Bool.not_not, al_nn] at hb65p
        have hs00 := hk.s0 (by omega) f0 hf0
        refine WH_guardT rfl rfl hb65.h ?_
        refine WH_p (PS_move_ptr rfl) rfl ?_
        refine WH_guardT rfl rfl hb65.h ?_
        refine WH_p (PS_nilCheck rfl) rfl ?_
        refine WH_guardT rfl rfl hb65.h ?_
        refine WH_p (PS_fieldAddr 1803 Hvad.runUnderlying69 rfl Hvad.sizeOf66 rfl rfl) rfl ?_
        refine WH_guardT rfl rfl hb65.h ?_
        refine WH_p (PS_indexA Hvad.runUnderlying66 Hvad.sizeOf65 rfl rfl (by omega) (by omega)) rfl ?_
        refine WH_guardT rfl rfl hb65.h ?_
        refine WH_p (PS_fieldAddr 8 Hvad.runUnderlying65 rfl Hvad.sizeOf21 rfl rfl) rfl ?_
        refine WH_guardT rfl rfl hb65.h ?_
        refine WH_load (.int _ _) Hvad.isAgg21 rfl (Hb.h (by repeat (first | assumption | exact Hb.newY _ _ | refine Hb.alloc ?_ | refine Hb.drew ?_ | refine Hb.ext (by assumption) ?_ | exact Hb.setSameL (by first | omega | (simp only [size_alloc, size_setB, size_drew]; omega)) | exact Hb.setSame (by assumption) | refine Hb.set (by first | omega | (simp only [size_alloc, size_setB, size_drew]; omega)) ?_ ))) (Ce.h (by first | assumption | exact ⟨rfl⟩)) ?_
        refine WH_guardT rfl rfl hb65.h ?_
        refine WH_p (PS_lss rfl rfl) rfl ?_
        refine WH_guardT rfl rfl hb65.h ?_
        refine WH_p (PS_move_bool rfl) rfl ?_
        refine WH_if (t := 160) rfl (fun hb67 => ?_) (fun hb67 => ?_)
        · have hb67p := hb67.h; try simp only [al_ete, al_dfn, Bool.not_eq_true', Bool.not_eq_false', al_ne, Bool.not_not, al_nn] at hb67p
          (exfalso; first | omega | simp_all) --END
        · have hb67p := hb67.h; try simp only [al_ete, al_dfn, Bool.not_eq_true', Bool.not_eq_false', al_ne, Bool.not_not, al_nn] at hb67p
          refine WH_guardT rfl rfl hb67.h ?_
          refine WH_p (PS_move_ptr rfl) rfl ?_
          refine WH_guardT rfl rfl hb67.h ?_
          refine WH_p (PS_nilCheck rfl) rfl ?_
          refine WH_guardT rfl rfl hb67.h ?_
          refine WH_p (PS_fieldAddr 1803 Hvad.runUnderlying69 rfl Hvad.sizeOf66 rfl rfl) rfl ?_
          refine WH_guardT rfl rfl hb67.h ?_
          refine WH_p (PS_indexA Hvad.runUnderlying66 Hvad.sizeOf65 rfl rfl (by omega) (by omega)) rfl ?_
          refine WH_guardT rfl rfl hb67.h ?_
          refine WH_p (PS_fieldAddr 8 Hvad.runUnderlying65 rfl Hvad.sizeOf21 rfl rfl) rfl ?_
          refine WH_guardT rfl rfl hb67.h ?_
          refine WH_load (.int _ _) Hvad.isAgg21 rfl (Hb.h (by repeat (first | assumption | exact Hb.newY _ _ | refine Hb.alloc ?_ | refine Hb.drew ?_ | refine Hb.ext (by assumption) ?_ | exact Hb.setSameL (by first | omega | (simp only [size_alloc, size_setB, size_drew]; omega)) | exact Hb.setSame (by assumption) | refine Hb.set (by first | omega | (simp only [size_alloc, size_setB, size_drew]; omega)) ?_ ))) (Ce.h (by first | assumption | exact ⟨rfl⟩)) ?_
          refine WH_guardT rfl rfl hb67.h ?_
          refine WH_p (PS_move_ptr rfl) rfl ?_
          refine WH_guardT rfl rfl hb67.h ?_
          refine WH_p (PS_nilCheck rfl) rfl ?_
          refine WH_guardT rfl rfl hb67.h ?_
          refine WH_p (PS_fieldAddr 0 Hvad.runUnderlying69 rfl Hvad.sizeOf53 rfl rfl) rfl ?_
          refine WH_guardT rfl rfl hb67.h ?_
          refine WH_load (.pointer _) Hvad.isAgg53 rfl (Hb.h (by repeat (first | assumption | exact Hb.newY _ _ | refine Hb.alloc ?_ | refine Hb.drew ?_ | refine Hb.ext (by assumption) ?_ | exact Hb.setSameL (by first | omega | (simp only [size_alloc, size_setB, size_drew]; omega)) | exact Hb.setSame (by assumption) | refine Hb.set (by first | omega | (simp only [size_alloc, size_setB, size_drew]; omega)) ?_ ))) (Ce.h (by first | assumption | exact ⟨rfl⟩)) ?_
          refine WH_guardT rfl rfl hb67.h ?_
          refine WH_p (PS_nilCheck rfl) rfl ?_
          refine WH_guardT rfl rfl hb67.h ?_
          refine WH_p (PS_fieldAddr 24579 Hvad.runUnderlying79 rfl Hvad.sizeOf21 rfl rfl) rfl ?_
          refine WH_guardT rfl rfl hb67.h ?_
          refine WH_load (.int _ _) Hvad.isAgg21 rfl (Hb.h (by repeat (first | assumption | exact Hb.newY _ _ | refine Hb.alloc ?_ | refine Hb.drew ?_ | refine Hb.ext (by assumption) ?_ | exact Hb.setSameL (by first | omega | (simp only [size_alloc, size_setB, size_drew]; omega)) | exact Hb.setSame (by assumption) | refine Hb.set (by first | omega | (simp only [size_alloc, size_setB, size_drew]; omega)) ?_ ))) (Ce.h (by first | assumption | exact ⟨rfl⟩)) ?_
          refine WH_guardT rfl rfl hb67.h ?_
          refine WH_p (PS_gtr rfl rfl) rfl ?_
          refine WH_guardT rfl rfl hb65.h ?_
          refine WH_p (PS_pickF rfl hb67.h rfl) rfl ?_
          refine WH_p (PS_pickT rfl hb65.h rfl) rfl ?_
          refine WH_nil ?_
          refine thn_normal ?_
          refine W_if rfl (fun hb69 => ?_) (fun hb69 => ?_)
          · have hb69p := hb69.h; try simp only [al_ete, al_dfn, Bool.not_eq_true', Bool.not_eq_false', al_ne, Bool.not_not, al_nn] at hb69p
            (exfalso; first | omega | simp_all) --END
          · have hb69p := hb69.h; try simp only [al_ete, al_dfn, Bool.not_eq_true', Bool.not_eq_false', al_ne, Bool.not_not, al_nn] at hb69p
            refine W_skip ?_
            refine thn_normal ?_
            refine W_seq ?_
            refine W_region rfl ?_
            refine WO_p (PS_move_ptr rfl) ?_
            refine WO_p (PS_nilCheck rfl) ?_
            refine WO_p (PS_fieldAddr 2404 Hvad.runUnderlying69 rfl Hvad.sizeOf5 rfl rfl) ?_
            refine WO_load (.int _ _) Hvad.isAgg5 rfl (Hb.h (by repeat (first | assumption | exact Hb.newY _ _ | refine Hb.alloc ?_ | refine Hb.drew ?_ | refine Hb.ext (by assumption) ?_ | exact Hb.setSameL (by first | omega | (simp only [size_alloc, size_setB, size_drew]; omega)) | exact Hb.setSame (by assumption) | refine Hb.set (by first | omega | (simp only [size_alloc, size_setB, size_drew]; omega)) ?_ ))) (Ce.h (by first | assumption | exact ⟨rfl⟩)) ?_
            refine WO_p (PS_eql rfl rfl) ?_
            refine WO_p (PS_move_bool rfl) ?_
            refine WO_if (t := 182) rfl (fun hb71 => ?_) (fun hb71 => ?_)
            · have hb71p := hb71.h; try simp only [al_ete, al_dfn, Bool.not_eq_true', Bool.not_eq_false', al_ne, Bool.not_not, al_nn] at hb71p
              refine WO_guardF rfl rfl hb71.h ?_
              refine WO_guardF rfl rfl hb71.h ?_
              refine WO_guardF rfl rfl hb71.h ?_
              refine WO_guardF rfl rfl hb71.h ?_
              refine WO_guardF rfl rfl hb71.h ?_
              refine WO_guardF rfl rfl hb71.h ?_
              refine WO_guardF rfl rfl hb71.h ?_
              refine WO_guardU rfl rfl ?_
              refine WO_guardU rfl rfl ?_
              refine WO_guardU rfl rfl ?_
              refine WO_guardU rfl rfl ?_
              refine WO_guardU rfl rfl ?_
              refine WO_guardU rfl rfl ?_
              refine WO_guardU rfl rfl ?_
              refine WO_guardF rfl rfl hb71.h ?_
              refine WO_p (PS_pickT rfl hb71.h rfl) ?_
              refine WO_p (PS_assign_bool rfl) ?_
              refine WO_nil ?_
              refine thn_normal ?_
              refine W_ret ?_
              refine bodyQ_ret1 Hvad.results137 rfl (.bool _) rfl ?_
              exact ⟨rfl, (by repeat (first | assumption | exact Ext.refl _ | refine Ext.alloc ?_ _ | refine Ext.drew ?_ | refine Ext.setB ?_ (by first | omega | (simp only [size_alloc, size_setB, size_drew]; omega)) _ | refine Ext.trans ?_ (by assumption)))⟩
            · have hb71p := hb71.h; try simp only [al_ete, al_dfn, Bool.not_eq_true', Bool.not_eq_false', al_ne, Bool.not_not, al_nn] at hb71p
              have heo := hk.eo (by omega)
              refine WO_guardT rfl rfl hb71.h ?_
              refine WO_p (PS_move_ptr rfl) ?_
              refine WO_guardT rfl rfl hb71.h ?_
              refine WO_p (PS_move_ptr rfl) ?_
              refine WO_guardT rfl rfl hb71.h ?_
              refine WO_p (PS_nilCheck rfl) ?_
              refine WO_guardT rfl rfl hb71.h ?_
              refine WO_p (PS_fieldAddr 2380 Hvad.runUnderlying69 rfl Hvad.sizeOf25 rfl rfl) ?_
              refine WO_guardT rfl rfl hb71.h ?_
              refine WO_loadA _ Hvad.isAgg25 Hvad.sizeOf25 rfl (Hb.h (by repeat (first | assumption | exact Hb.newY _ _ | refine Hb.alloc ?_ | refine Hb.drew ?_ | refine Hb.ext (by assumption) ?_ | exact Hb.setSameL (by first | omega | (simp only [size_alloc, size_setB, size_drew]; omega)) | exact Hb.setSame (by assumption) | refine Hb.set (by first | omega | (simp only [size_alloc, size_setB, size_drew]; omega)) ?_ ))) (by first | omega | assumption | rfl | decide | exact Nat.le_refl _ | (simp only [size_ic, Value.cells]; omega) | simp) (Xt.h (by first | assumption | exact Xt.whole rfl rfl | exact Xt.whole rfl (by simp only [size_ic, Value.cells]; omega) | exact ⟨rfl⟩)) ?_
              refine WO_guardT rfl rfl hb71.h ?_
              refine WO_call Hvad.call227 (by rfl) (Ret.mono (entered_spec C c v B m _ _ (MS.ext hM (by repeat (first | assumption | exact Ext.refl _ | refine Ext.alloc ?_ _ | refine Ext.drew ?_ | refine Ext.setB ?_ (by first | omega | (simp only [size_alloc, size_setB, size_drew]; omega)) _ | exact Ext.trans (by assumption) (by assumption) | refine Ext.trans ?_ (by assumption)))) (by first | exact hort | exact hcbt) (by first | exact heo.1 | exact heo.2)) ?_)
              rintro _ w227_71 ⟨rfl, hE227_71⟩
              have hz227_71 := hE227_71.1
              try simp only [size_alloc, size_setB, size_drew] at hz227_71
              refine WO_guardT rfl rfl hb71.h ?_
              refine WO_p (PS_move_bool rfl) ?_
              refine WO_if (t := 189) rfl (fun hb74 => ?_) (fun hb74 => ?_)
              · have hb74p := hb74.h; try simp only [al_ete, al_dfn, Bool.not_eq_true', Bool.not_eq_false', al_ne, Bool.not_not, al_nn] at hb74p
                refine WO_guardT rfl rfl hb74.h ?_
                refine WO_p (PS_move_ptr rfl) ?_
                refine WO_guardT rfl rfl hb74.h ?_
                refine WO_p (PS_move_ptr rfl) ?_
                refine WO_guardT rfl rfl hb74.h ?_
                refine WO_p (PS_nilCheck rfl) ?_
                refine WO_guardT rfl rfl hb74.h ?_
                refine WO_p (PS_fieldAddr 2260 Hvad.runUnderlying69 rfl Hvad.sizeOf31 rfl rfl) ?_
                refine WO_guardT rfl rfl hb74.h ?_
                refine WO_p (PS_fieldAddr 0 Hvad.runUnderlying31 rfl Hvad.sizeOf25 rfl rfl) ?_
                refine WO_guardT rfl rfl hb74.h ?_
                refine WO_loadA _ Hvad.isAgg25 Hvad.sizeOf25 rfl (Hb.h (by repeat (first | assumption | exact Hb.newY _ _ | refine Hb.alloc ?_ | refine Hb.drew ?_ | refine Hb.ext (by assumption) ?_ | exact Hb.setSameL (by first | omega | (simp only [size_alloc, size_setB, size_drew]; omega)) | exact Hb.setSame (by assumption) | refine Hb.set (by first | omega | (simp only [size_alloc, size_setB, size_drew]; omega)) ?_ ))) (by first | omega | assumption | rfl | decide | exact Nat.le_refl _ | (simp only [size_ic, Value.cells]; omega) | simp) (Xt.h (by first | assumption | exact Xt.whole rfl rfl | exact Xt.whole rfl (by simp only [size_ic, Value.cells]; omega) | exact ⟨rfl⟩)) ?_
                refine WO_guardT rfl rfl hb74.h ?_
                refine WO_call Hvad.call227 (by rfl) (Ret.mono (entered_spec C c v B m _ _ (MS.ext hM (by repeat (first | assumption | exact Ext.refl _ | refine Ext.alloc ?_ _ | refine Ext.drew ?_ | refine Ext.setB ?_ (by first | omega | (simp only [size_alloc, size_setB, size_drew]; omega)) _ | exact Ext.trans (by assumption) (by assumption) | refine Ext.trans ?_ (by assumption)))) (by first | exact hort | exact hcbt) (by first | exact heo.1 | exact heo.2)) ?_)
                rintro _ w227_74 ⟨rfl, hE227_74⟩
                have hz227_74 := hE227_74.1
                try simp only [size_alloc, size_setB, size_drew] at hz227_74
                refine WO_guardT rfl rfl hb71.h ?_
                refine WO_p (PS_pickT rfl hb74.h rfl) ?_
                refine WO_p (PS_pickF rfl hb71.h rfl) ?_
                refine WO_p (PS_assign_bool rfl) ?_
                refine WO_nil ?_
                refine thn_normal ?_
                refine W_ret ?_
                refine bodyQ_ret1 Hvad.results137 rfl (.bool _) rfl ?_
                exact ⟨rfl, (by repeat (first | assumption | exact Ext.refl _ | refine Ext.alloc ?_ _ | refine Ext.drew ?_ | refine Ext.setB ?_ (by first | omega | (simp only [size_alloc, size_setB, size_drew]; omega)) _ | refine Ext.trans ?_ (by assumption)))⟩
              · have hb74p := hb74.h; try simp only [al_ete, al_dfn, Bool.not_eq_true', Bool.not_eq_false', al_ne, Bool.not_not, al_nn] at hb74p
                simp at hb74p --END
      · have hb65p := hb65.h; try simp only [al_ete, al_dfn, Bool.not_eq_true', Bool.not_eq_false', al_ne, Bool.not_not, al_nn] at hb65p
        refine WH_guardF rfl rfl hb65.h ?_
        refine WH_guardF rfl rfl hb65.h ?_
        refine WH_guardF rfl rfl hb65.h ?_
        refine WH_guardF rfl rfl hb65.h ?_
        refine WH_guardF rfl rfl hb65.h ?_
        refine WH_guardF rfl rfl hb65.h ?_
        refine WH_guardF rfl rfl hb65.h ?_
        refine WH_guardF rfl rfl hb65.h ?_
        refine WH_guardU rfl rfl ?_
        refine WH_guardU rfl rfl ?_
        refine WH_guardU rfl rfl ?_
        refine WH_guardU rfl rfl ?_
        refine WH_guardU rfl rfl ?_
        refine WH_guardU rfl rfl ?_
        refine WH_guardU rfl rfl ?_
        refine WH_guardU rfl rfl ?_
        refine WH_guardU rfl rfl ?_
        refine WH_guardU rfl rfl ?_
        refine WH_guardU rfl rfl ?_
        refine WH_guardU rfl rfl ?_
        refine WH_guardU rfl rfl ?_
        refine WH_guardU rfl rfl ?_
        refine WH_guardF rfl rfl hb65.h ?_
        refine WH_p (PS_pickF rfl hb65.h rfl) rfl ?_
        refine WH_nil ?_
        refine thn_normal ?_
        refine W_condF rfl rfl ?_
        refine W_skip ?_
        refine thn_normal ?_
        refine W_seq ?_
        refine W_region rfl ?_
        refine WO_p (PS_move_ptr rfl) ?_
        refine WO_p (PS_nilCheck rfl) ?_
        refine WO_p (PS_fieldAddr 2404 Hvad.runUnderlying69 rfl Hvad.sizeOf5 rfl rfl) ?_
        refine WO_load (.int _ _) Hvad.isAgg5 rfl (Hb.h (by repeat (first | assumption | exact Hb.newY _ _ | refine Hb.alloc ?_ | refine Hb.drew ?_ | refine Hb.ext (by assumption) ?_ | exact Hb.setSameL (by first | omega | (simp only [size_alloc, size_setB, size_drew]; omega)) | exact Hb.setSame (by assumption) | refine Hb.set (by first | omega | (simp only [size_alloc, size_setB, size_drew]; omega)) ?_ ))) (Ce.h (by first | assumption | exact ⟨rfl⟩)) ?_
        refine WO_p (PS_eql rfl rfl) ?_
        refine WO_p (PS_move_bool rfl) ?_
        refine WO_if (t := 182) rfl (fun hb78 => ?_) (fun hb78 => ?_)
        · have hb78p := hb78.h; try simp only [al_ete, al_dfn, Bool.not_eq_true', Bool.not_eq_false', al_ne, Bool.not_not, al_nn] at hb78p
          refine WO_guardF rfl rfl hb78.h ?_
          refine WO_guardF rfl rfl hb78.h ?_
          refine WO_guardF rfl rfl hb78.h ?_
          refine WO_guardF rfl rfl hb78.h ?_
          refine WO_guardF rfl rfl hb78.h ?_
          refine WO_guardF rfl rfl hb78.h ?_
          refine WO_guardF rfl rfl hb78.h ?_
          refine WO_guardU rfl rfl ?_
          refine WO_guardU rfl rfl ?_
          refine WO_guardU rfl rfl ?_
          refine WO_guardU rfl rfl ?_
          refine WO_guardU rfl rfl ?_
          refine WO_guardU rfl rfl ?_
          refine WO_guardU rfl rfl ?_
          refine WO_guardF rfl rfl hb78.h ?_
          refine WO_p (PS_pickT rfl hb78.h rfl) ?_
          refine WO_p (PS_assign_bool rfl) ?_
          refine WO_nil ?_
          refine thn_normal ?_
          refine W_ret ?_
          refine bodyQ_ret1 Hvad.results137 rfl (.bool _) rfl ?_
          exact ⟨rfl, (by repeat (first | assumption | exact Ext.refl _ | refine Ext.alloc ?_ _ | refine Ext.drew ?_ | refine Ext.setB ?_ (by first | omega | (simp only [size_alloc, size_setB, size_drew]; omega)) _ | refine Ext.trans ?_ (by assumption)))⟩
        · have hb78p := hb78.h; try simp only [al_ete, al_dfn, Bool.not_eq_true', Bool.not_eq_false', al_ne, Bool.not_not, al_nn] at hb78p
          have heo := hk.eo (by omega)
          refine WO_guardT rfl rfl hb78.h ?_
          refine WO_p (PS_move_ptr rfl) ?_
          refine WO_guardT rfl rfl hb78.h ?_
          refine WO_p (PS_move_ptr rfl) ?_
          refine WO_guardT rfl rfl hb78.h ?_
          refine WO_p (PS_nilCheck rfl) ?_
          refine WO_guardT rfl rfl hb78.h ?_
          refine WO_p (PS_fieldAddr 2380 Hvad.runUnderlying69 rfl Hvad.sizeOf25 rfl rfl) ?_
          refine WO_guardT rfl rfl hb78.h ?_
          refine WO_loadA _ Hvad.isAgg25 Hvad.sizeOf25 rfl (Hb.h (by repeat (first | assumption | exact Hb.newY _ _ | refine Hb.alloc ?_ | refine Hb.drew ?_ | refine Hb.ext (by assumption) ?_ | exact Hb.setSameL (by first | omega | (simp only [size_alloc, size_setB, size_drew]; omega)) | exact Hb.setSame (by assumption) | refine Hb.set (by first | omega | (simp only [size_alloc, size_setB, size_drew]; omega)) ?_ ))) (by first | omega | assumption | rfl | decide | exact Nat.le_refl _ | (simp only [size_ic, Value.cells]; omega) | simp) (Xt.h (by first | assumption | exact Xt.whole rfl rfl | exact Xt.whole rfl (by simp only [size_ic, Value.cells]; omega) | exact ⟨rfl⟩)) ?_
          refine WO_guardT rfl rfl hb78.h ?_
          refine WO_call Hvad.call227 (by rfl) (Ret.mono (entered_spec C c v B m _ _ (MS.ext hM (by repeat (first | assumption | exact Ext.refl _ | refine Ext.alloc ?_ _ | refine Ext.drew ?_ | refine Ext.setB ?_ (by first | omega | (simp only [size_alloc, size_setB, size_drew]; omega)) _ | exact Ext.trans (by assumption) (by assumption) | refine Ext.trans ?_ (by assumption)))) (by first | exact hort | exact hcbt) (by first | exact heo.1 | exact heo.2)) ?_)
          rintro _ w227_78 ⟨rfl, hE227_78⟩
          have hz227_78 := hE227_78.1
          try simp only [size_alloc, size_setB, size_drew] at hz227_78
          refine WO_guardT rfl rfl hb78.h ?_
          refine WO_p (PS_move_bool rfl) ?_
          refine WO_if (t := 189) rfl (fun hb81 => ?_) (fun hb81 => ?_)
          · have hb81p := hb81.h; try simp only [al_ete, al_dfn, Bool.not_eq_true', Bool.not_eq_false', al_ne, Bool.not_not, al_nn] at hb81p
            refine WO_guardT rfl rfl hb81.h ?_
            refine WO_p (PS_move_ptr rfl) ?_
            refine WO_guardT rfl rfl hb81.h ?_
            refine WO_p (PS_move_ptr rfl) ?_
            refine WO_guardT rfl rfl hb81.h ?_
            refine WO_p (PS_nilCheck rfl) ?_
            refine WO_guardT rfl rfl hb81.h ?_
            refine WO_p (PS_fieldAddr 2260 Hvad.runUnderlying69 rfl Hvad.sizeOf31 rfl rfl) ?_
            refine WO_guardT rfl rfl hb81.h ?_
            refine WO_p (PS_fieldAddr 0 Hvad.runUnderlying31 rfl Hvad.sizeOf25 rfl rfl) ?_
            refine WO_guardT rfl rfl hb81.h ?_
            refine WO_loadA _ Hvad.isAgg25 Hvad.sizeOf25 rfl (Hb.h (by repeat (first | assumption | exact Hb.newY _ _ | refine Hb.alloc ?_ | refine Hb.drew ?_ | refine Hb.ext (by assumption) ?_ | exact Hb.setSameL (by first | omega | (simp only [size_alloc, size_setB, size_drew]; omega)) | exact Hb.setSame (by assumption) | refine Hb.set (by first | omega | (simp only [size_alloc, size_setB, size_drew]; omega)) ?_ ))) (by first | omega | assumption | rfl | decide | exact Nat.le_refl _ | (simp only [size_ic, Value.cells]; omega) | simp) (Xt.h (by first | assumption | exact Xt.whole rfl rfl | exact Xt.whole rfl (by simp only [size_ic, Value.cells]; omega) | exact ⟨rfl⟩)) ?_
            refine WO_guardT rfl rfl hb81.h ?_
            refine WO_call Hvad.call227 (by rfl) (Ret.mono (entered_spec C c v B m _ _ (MS.ext hM (by repeat (first | assumption | exact Ext.refl _ | refine Ext.alloc ?_ _ | refine Ext.drew ?_ | refine Ext.setB ?_ (by first | omega | (simp only [size_alloc, size_setB, size_drew]; omega)) _ | exact Ext.trans (by assumption) (by assumption) | refine Ext.trans ?_ (by assumption)))) (by first | exact hort | exact hcbt) (by first | exact heo.1 | exact heo.2)) ?_)
            rintro _ w227_81 ⟨rfl, hE227_81⟩
            have hz227_81 := hE227_81.1
            try simp only [size_alloc, size_setB, size_drew] at hz227_81
            refine WO_guardT rfl rfl hb78.h ?_
            refine WO_p (PS_pickT rfl hb81.h rfl) ?_
            refine WO_p (PS_pickF rfl hb78.h rfl) ?_
            refine WO_p (PS_assign_bool rfl) ?_
            refine WO_nil ?_
            refine thn_normal ?_
            refine W_ret ?_
            refine bodyQ_ret1 Hvad.results137 rfl (.bool _) rfl ?_
            exact ⟨rfl, (by repeat (first | assumption | exact Ext.refl _ | refine Ext.alloc ?_ _ | refine Ext.drew ?_ | refine Ext.setB ?_ (by first | omega | (simp only [size_alloc, size_setB, size_drew]; omega)) _ | refine Ext.trans ?_ (by assumption)))⟩
          · have hb81p := hb81.h; try simp only [al_ete, al_dfn, Bool.not_eq_true', Bool.not_eq_false', al_ne, Bool.not_not, al_nn] at hb81p
            simp at hb81p --END

end Go.Proofs.YgvadwGreat
