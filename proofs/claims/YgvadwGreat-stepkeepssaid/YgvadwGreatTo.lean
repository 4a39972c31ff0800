import Derived.Test.YgvadwGreatTn
namespace Go.Proofs.YgvadwGreat
set_option linter.unusedSimpArgs false
set_option linter.unusedVariables false
theorem wdl_set {l : List (List Int)} {x : List Int} (h : ∀ y ∈ l, Wd y) (hx : Wd x) (i : Nat) : ∀ y ∈ l.set i x, Wd y := by
  intro y hy
  rcases List.mem_or_eq_of_mem_set hy with hy | hy
  · exact h y hy
  · rw [hy]; exact hx
theorem clr_back {l o : List (List Int)} {i : Nat} {x y z : List Int} (hx : l[i]? = some x) (ho : o[i]? = some z) : cleared l o + (if x = [0, 0, 0, 0] ∧ z ≠ [0, 0, 0, 0] then -1 else 0) + (if y = [0, 0, 0, 0] ∧ z ≠ [0, 0, 0, 0] then 1 else 0) = cleared (l.set i y) o := by
  have h := cleared_set l o i x y z hx ho
  by_cases h1 : x = [0, 0, 0, 0] ∧ z ≠ [0, 0, 0, 0] <;> by_cases h2 : y = [0, 0, 0, 0] ∧ z ≠ [0, 0, 0, 0]
  · rw [if_pos h1, if_pos h2] at *; omega
  · rw [if_pos h1, if_neg h2] at *; omega
  · rw [if_neg h1, if_pos h2] at *; omega
  · rw [if_neg h1, if_neg h2] at *; omega
theorem clr_step {l o : List (List Int)} {x : List Int} {z : List Int} (hl : l.length ≤ 2560) : -1 ≤ cleared l o + (if x = [0, 0, 0, 0] ∧ z ≠ [0, 0, 0, 0] then -1 else 0) ∧ cleared l o + (if x = [0, 0, 0, 0] ∧ z ≠ [0, 0, 0, 0] then -1 else 0) ≤ 2560 := by
  have h1 := cleared_nonneg l o
  have h2 := cleared_le l o
  split <;> omega

set_option maxRecDepth 10000 in
set_option maxHeartbeats 4000000 in
theorem sBack_spec (C D Ba Bv : Nat) (bl vl : List (List Int)) (T r k : Int) (c : Array Value) (v : V) (B : VB) (β : Option Nat) (b cap p : Nat) (e : Entry) (w w9 : World) (hs : SRep w w9 C D Ba Bv bl vl T r k) (hv : VS w C c v B β) (hi : VInv v) (hab : B.j = some (b, cap)) (hxi : v.journal[p]? = some e) (hbn : bl.length = v.accts.length) (hvn : vl.length = v.slots.length) (hT : T = sumW bl) (hkk : k = cleared vl v.origs) : Ret Hvad.prog 234 #[.pointer (some ⟨D, 0, none⟩), .pointer (some ⟨b, 0 + p * 9, none⟩)] w9 fun u w' => u = .bool true ∧ SRep w w' C D Ba Bv (Sc.back e ⟨bl, vl, r⟩).bals (Sc.back e ⟨bl, vl, r⟩).vals (sumW (Sc.back e ⟨bl, vl, r⟩).bals) (Sc.back e ⟨bl, vl, r⟩).ref (cleared (Sc.back e ⟨bl, vl, r⟩).vals v.origs) ∧ KD D Ba Bv w9 w' := by
  obtain ⟨hE9, hDg, hAg, hBg, ⟨hn1, hn2, hn3⟩, ⟨W, q, hW, hq0, hsum, hHD⟩, hHA, hHV, hbw, hvw, hla, hlv⟩ := hs
  have hWl := hW.1
  have hWb := wv_bd hW
  have hDl := hHD.lt
  have hAl := hHA.lt
  have hVl := hHV.lt
  have hz9 := hE9.1
  have hsz : (encD C Ba Bv bl.length vl.length W q r k).size = 10 := size_encD hWl
  obtain ⟨b', cap', rj, hab', hcap, hrj, hrs, hrow, hda, hbd, hil, hty, f0, f1, f2, f3, f4, f5⟩ := hv.openJ hxi
  obtain ⟨rfl, rfl⟩ : b = b' ∧ cap = cap' := by rw [hab] at hab'; injection hab' with e; injection e with e1 e2; exact ⟨e1, e2⟩
  have he := hi.je e (List.mem_of_getElem? hxi)
  obtain ⟨ek, ea, en, ew, eb, ef⟩ := e
  have hke := he.k
  have hae := he.a
  have hor := eSize_or v.accts.length v.slots.length v.temps.length ek
  have hwd : Wd ew := hty.2.2.2
  have hn64 := hty.2.2.1
  dsimp only at hke hae hor f0 f1 f2 f3 f4 f5 hn64
  obtain ⟨j, rfl⟩ : ∃ j : Nat, ea = (j : Int) := ⟨ea.toNat, by omega⟩
  have hwl := hwd.1
  have hjb := hrj.lt
  have hwb := wv_bd hwd
  have hla0 := hi.la
  have hls0 := hi.ls
  generalize hes : eSize v.accts.length v.slots.length v.temps.length ek = es at hae hor
  clear hes
  refine Ret_of_W Hvad.func234 rfl rfl ?_
  refine W_seq ?_
  refine W_region rfl ?_
  refine WO_p (PS_assign_bool rfl) ?_
  refine WO_nil ?_
  refine thn_normal ?_
  refine W_seq ?_
  refine W_seq ?_
  refine W_region rfl ?_
  refine WO_p (PS_move_ptr rfl) ?_
  refine WO_p (PS_nilCheck rfl) ?_
  refine WO_p (PS_fieldAddr 0 Hvad.runUnderlying173 rfl Hvad.sizeOf5 rfl rfl) ?_
  refine WO_load (.int _ _) Hvad.isAgg5 rfl (Hb.h (by repeat (first | assumption | exact Hb.newY _ _ | refine Hb.alloc ?_ | refine Hb.drew ?_ | refine Hb.ext (by assumption) ?_ | exact Hb.setSameL (by first | omega | (simp only [size_alloc, size_setB, size_drew]; omega)) | exact Hb.setSame (by assumption) | refine Hb.set (by first | omega | (simp only [size_alloc, size_setB, size_drew]; omega)) ?_ ))) (Ce.h (by first | assumption | exact ed0 | exact ed1 | exact ed2 | exact ed7 (by assumption) | exact ed8 (by assumption) | exact ed9 (by assumption) | exact ⟨rfl⟩)) ?_
  refine WO_nil ?_
  refine thn_normal ?_
  refine W_block ?_
  refine W_seq ?_
  refine W_region rfl ?_
  refine WO_p (PS_eql rfl rfl) ?_
  refine WO_p (PS_assign_bool rfl) ?_
  refine WO_nil ?_
  refine thn_normal ?_
  refine W_if rfl (fun hb2 => ?_) (fun hb2 => ?_)
  · have hb2p := hb2.h; try simp only [al_ete, al_dfn, Bool.not_eq_true', Bool.not_eq_false', al_ne, Bool.not_not, al_nn] at hb2p
    have hjl : j < bl.length := by omega
    clear hor hae hke
    obtain ⟨x, hx⟩ : ∃ x, bl[j]? = some x := ⟨_, List.getElem?_eq_getElem hjl⟩
    have hxw := hbw x (List.mem_of_getElem? hx)
    have hxl := hxw.1
    have hxb := wv_bd hxw
    have hxt := wr_xt hbw hx
    have hfl := flatW_len hbw
    have hge := (sumW_le (fun y hy => (wv_bd (hbw y hy)).1)).2 x (List.mem_of_getElem? hx)
    have hle := (sumW_bd2 bl hbw).2
    have hss := sumW_set bl j x ew hx
    have hoW := ofV_wd ((wv W - wv x) % 115792089237316195423570985008687907853269984665640564039457584007913129639936)
    have hol := hoW.1
    have hov : wv (ofV ((wv W - wv x) % 115792089237316195423570985008687907853269984665640564039457584007913129639936)) = (wv W - wv x) % 115792089237316195423570985008687907853269984665640564039457584007913129639936 := wv_ofV (by omega) (by omega)
    have hbk : (Sc.back ⟨ek, (j : Int), en, ew, eb, ef⟩ ⟨bl, vl, r⟩) = ⟨bl.set j ew, vl, r⟩ := by unfold Sc.back; rw [if_pos hb2p]; rfl
    refine W_seq ?_
    refine W_seq ?_
    refine W_drawE [false, false, false, false, false, false, false, false, false, false, false, false, false, false, false, false, false, false] hmix (by kernel_rfl) rfl ?_
    refine WH_p (PS_move_ptr rfl) rfl ?_
    refine WH_p (PS_nilCheck rfl) rfl ?_
    refine WH_p (PS_fieldAddr 1 Hvad.runUnderlying173 rfl Hvad.sizeOf21 rfl rfl) rfl ?_
    refine WH_load (.int _ _) Hvad.isAgg21 rfl (Hb.h (by repeat (first | assumption | exact Hb.newY _ _ | refine Hb.alloc ?_ | refine Hb.drew ?_ | refine Hb.ext (by assumption) ?_ | exact Hb.setSameL (by first | omega | (simp only [size_alloc, size_setB, size_drew]; omega)) | exact Hb.setSame (by assumption) | refine Hb.set (by first | omega | (simp only [size_alloc, size_setB, size_drew]; omega)) ?_ ))) (Ce.h (by first | assumption | exact ed0 | exact ed1 | exact ed2 | exact ed7 (by assumption) | exact ed8 (by assumption) | exact ed9 (by assumption) | exact ⟨rfl⟩)) ?_
    refine WH_p (PS_lss rfl rfl) rfl ?_
    refine WH_p (PS_move_bool rfl) rfl ?_
    refine WH_if (t := 18) rfl (fun hb4 => ?_) (fun hb4 => ?_)
    · have hb4p := hb4.h; try simp only [al_ete, al_dfn, Bool.not_eq_true', Bool.not_eq_false', al_ne, Bool.not_not, al_nn] at hb4p
      (exfalso; omega) --END
    · have hb4p := hb4.h; try simp only [al_ete, al_dfn, Bool.not_eq_true', Bool.not_eq_false', al_ne, Bool.not_not, al_nn] at hb4p
      refine WH_guardT rfl rfl hb4.h ?_
      refine WH_p (PS_move_ptr rfl) rfl ?_
      refine WH_guardT rfl rfl hb4.h ?_
      refine WH_p (PS_nilCheck rfl) rfl ?_
      refine WH_guardT rfl rfl hb4.h ?_
      refine WH_p (PS_fieldAddr 1 Hvad.runUnderlying173 rfl Hvad.sizeOf21 rfl rfl) rfl ?_
      refine WH_guardT rfl rfl hb4.h ?_
      refine WH_load (.int _ _) Hvad.isAgg21 rfl (Hb.h (by repeat (first | assumption | exact Hb.newY _ _ | refine Hb.alloc ?_ | refine Hb.drew ?_ | refine Hb.ext (by assumption) ?_ | exact Hb.setSameL (by first | omega | (simp only [size_alloc, size_setB, size_drew]; omega)) | exact Hb.setSame (by assumption) | refine Hb.set (by first | omega | (simp only [size_alloc, size_setB, size_drew]; omega)) ?_ ))) (Ce.h (by first | assumption | exact ed0 | exact ed1 | exact ed2 | exact ed7 (by assumption) | exact ed8 (by assumption) | exact ed9 (by assumption) | exact ⟨rfl⟩)) ?_
      refine WH_guardT rfl rfl hb4.h ?_
      refine WH_p (PS_conv_i64n Hvad.runUnderlying21 Hvad.runUnderlying3 rfl (by omega) (by omega)) rfl ?_
      refine WH_guardT rfl rfl hb4.h ?_
      refine WH_p (PS_move_ptr rfl) rfl ?_
      refine WH_guardT rfl rfl hb4.h ?_
      refine WH_p (PS_nilCheck rfl) rfl ?_
      refine WH_guardT rfl rfl hb4.h ?_
      refine WH_p (PS_fieldAddr 1 Hvad.runUnderlying271 rfl Hvad.sizeOf269 rfl rfl) rfl ?_
      refine WH_guardT rfl rfl hb4.h ?_
      refine WH_load (.slice _ _ _) Hvad.isAgg269 rfl (Hb.h (by repeat (first | assumption | exact Hb.newY _ _ | refine Hb.alloc ?_ | refine Hb.drew ?_ | refine Hb.ext (by assumption) ?_ | exact Hb.setSameL (by first | omega | (simp only [size_alloc, size_setB, size_drew]; omega)) | exact Hb.setSame (by assumption) | refine Hb.set (by first | omega | (simp only [size_alloc, size_setB, size_drew]; omega)) ?_ ))) (Ce.h (by first | assumption | exact ed0 | exact ed1 | exact ed2 | exact ed7 (by assumption) | exact ed8 (by assumption) | exact ed9 (by assumption) | exact ⟨rfl⟩)) ?_
      refine WH_guardT rfl rfl hb4.h ?_
      refine WH_p (PS_lenS Hvad.runUnderlying269 rfl) rfl ?_
      refine WH_guardT rfl rfl hb4.h ?_
      refine WH_p (PS_geq rfl rfl) rfl ?_
      refine WH_p (PS_pickF rfl hb4.h rfl) rfl ?_
      refine WH_nil ?_
      refine thn_normal ?_
      refine W_if rfl (fun hb6 => ?_) (fun hb6 => ?_)
      · have hb6p := hb6.h; try simp only [al_ete, al_dfn, Bool.not_eq_true', Bool.not_eq_false', al_ne, Bool.not_not, al_nn] at hb6p
        (exfalso; omega) --END
      · have hb6p := hb6.h; try simp only [al_ete, al_dfn, Bool.not_eq_true', Bool.not_eq_false', al_ne, Bool.not_not, al_nn] at hb6p
        refine W_skip ?_
        refine thn_normal ?_
        refine W_seq ?_
        refine W_drawF [false, false, false, false, false, false, false, false, false, false, false, false, false, false, false, false, false, false, true, false, false] [18] [0, 1, 2, 3, 4, 5, 6, 7, 8, 9, 10, 11, 12, 13, 14, 15, 16, 17, 19, 20] hmix (by kernel_rfl) rfl rfl rfl ?_
        refine F_q (i := 0) rfl (by kernel_rfl) ?_
        refine WH_p (PS_move_ptr rfl) rfl ?_
        refine WH_nil ?_
        refine F_q (i := 1) rfl (by kernel_rfl) ?_
        refine WH_p (PS_nilCheck rfl) rfl ?_
        refine WH_nil ?_
        refine F_q (i := 2) rfl (by kernel_rfl) ?_
        refine WH_p (PS_fieldAddr 3 Hvad.runUnderlying271 rfl Hvad.sizeOf59 rfl rfl) rfl ?_
        refine WH_nil ?_
        refine F_q (i := 3) rfl (by kernel_rfl) ?_
        refine WH_loadA _ Hvad.isAgg59 Hvad.sizeOf59 rfl (Hb.h (by repeat (first | assumption | exact Hb.newY _ _ | refine Hb.alloc ?_ | refine Hb.drew ?_ | refine Hb.ext (by assumption) ?_ | exact Hb.setSameL (by first | omega | (simp only [size_alloc, size_setB, size_drew]; omega)) | exact Hb.setSame (by assumption) | refine Hb.set (by first | omega | (simp only [size_alloc, size_setB, size_drew]; omega)) ?_ ))) (by first | omega | assumption | rfl | decide | exact Nat.le_refl _ | (simp only [size_ic, Value.cells]; omega) | simp) (Xt.h (by first | assumption | exact Xt.whole rfl rfl | exact ed3 (by assumption) | exact Xt.whole rfl (by simp only [size_ic, Value.cells]; omega) | exact ⟨rfl⟩)) ?_
        refine WH_nil ?_
        refine F_q (i := 4) rfl (by kernel_rfl) ?_
        refine WH_p (PS_move_ptr rfl) rfl ?_
        refine WH_nil ?_
        refine F_q (i := 5) rfl (by kernel_rfl) ?_
        refine WH_p (PS_nilCheck rfl) rfl ?_
        refine WH_nil ?_
        refine F_q (i := 6) rfl (by kernel_rfl) ?_
        refine WH_p (PS_fieldAddr 1 Hvad.runUnderlying271 rfl Hvad.sizeOf269 rfl rfl) rfl ?_
        refine WH_nil ?_
        refine F_q (i := 7) rfl (by kernel_rfl) ?_
        refine WH_load (.slice _ _ _) Hvad.isAgg269 rfl (Hb.h (by repeat (first | assumption | exact Hb.newY _ _ | refine Hb.alloc ?_ | refine Hb.drew ?_ | refine Hb.ext (by assumption) ?_ | exact Hb.setSameL (by first | omega | (simp only [size_alloc, size_setB, size_drew]; omega)) | exact Hb.setSame (by assumption) | refine Hb.set (by first | omega | (simp only [size_alloc, size_setB, size_drew]; omega)) ?_ ))) (Ce.h (by first | assumption | exact ed0 | exact ed1 | exact ed2 | exact ed7 (by assumption) | exact ed8 (by assumption) | exact ed9 (by assumption) | exact ⟨rfl⟩)) ?_
        refine WH_nil ?_
        refine F_q (i := 8) rfl (by kernel_rfl) ?_
        refine WH_p (PS_move_ptr rfl) rfl ?_
        refine WH_nil ?_
        refine F_q (i := 9) rfl (by kernel_rfl) ?_
        refine WH_p (PS_nilCheck rfl) rfl ?_
        refine WH_nil ?_
        refine F_q (i := 10) rfl (by kernel_rfl) ?_
        refine WH_p (PS_fieldAddr 1 Hvad.runUnderlying173 rfl Hvad.sizeOf21 rfl rfl) rfl ?_
        refine WH_nil ?_
        refine F_q (i := 11) rfl (by kernel_rfl) ?_
        refine WH_load (.int _ _) Hvad.isAgg21 rfl (Hb.h (by repeat (first | assumption | exact Hb.newY _ _ | refine Hb.alloc ?_ | refine Hb.drew ?_ | refine Hb.ext (by assumption) ?_ | exact Hb.setSameL (by first | omega | (simp only [size_alloc, size_setB, size_drew]; omega)) | exact Hb.setSame (by assumption) | refine Hb.set (by first | omega | (simp only [size_alloc, size_setB, size_drew]; omega)) ?_ ))) (Ce.h (by first | assumption | exact ed0 | exact ed1 | exact ed2 | exact ed7 (by assumption) | exact ed8 (by assumption) | exact ed9 (by assumption) | exact ⟨rfl⟩)) ?_
        refine WH_nil ?_
        refine F_q (i := 12) rfl (by kernel_rfl) ?_
        refine WH_p (PS_indexS Hvad.runUnderlying269 Hvad.sizeOf59 rfl rfl (by omega) (by omega)) rfl ?_
        refine WH_nil ?_
        refine F_q (i := 13) rfl (by kernel_rfl) ?_
        refine WH_loadA _ Hvad.isAgg59 Hvad.sizeOf59 rfl (Hb.h (by repeat (first | assumption | exact Hb.newY _ _ | refine Hb.alloc ?_ | refine Hb.drew ?_ | refine Hb.ext (by assumption) ?_ | exact Hb.setSameL (by first | omega | (simp only [size_alloc, size_setB, size_drew]; omega)) | exact Hb.setSame (by assumption) | refine Hb.set (by first | omega | (simp only [size_alloc, size_setB, size_drew]; omega)) ?_ ))) (by first | omega | assumption | rfl | decide | exact Nat.le_refl _ | (simp only [size_ic, Value.cells]; omega) | simp) (Xt.h (by first | assumption | exact Xt.whole rfl rfl | exact ed3 (by assumption) | exact Xt.whole rfl (by simp only [size_ic, Value.cells]; omega) | exact ⟨rfl⟩)) ?_
        refine WH_nil ?_
        refine F_fork1 (i := 14) rfl rfl ?_ ?_
        · refine WH_call Hvad.call74 (by rfl) (Ret.mono (subUnder_spec W x _ hW hxw) ?_)
          rintro _ w74_6 ⟨rfl, hE74_6⟩
          refine ⟨(fun h => by cases h), ?_⟩
          have hz74_6 := hE74_6.1
          try simp only [size_alloc, size_setB, size_drew] at hz74_6
          refine WH_nil ?_
          refine F_q (i := 15) rfl (by kernel_rfl) ?_
          refine WH_p (PS_move_tuple rfl) rfl ?_
          refine WH_nil ?_
          refine F_q (i := 16) rfl (by kernel_rfl) ?_
          refine WH_p (PS_extract_agg rfl rfl) rfl ?_
          refine WH_nil ?_
          refine F_q (i := 17) rfl (by kernel_rfl) ?_
          refine WH_p (PS_extract_bool rfl rfl) rfl ?_
          refine WH_nil ?_
          refine F_fork1B (i := 19) (by kernel_rfl) rfl ?_
          · refine WH_allocG Hvad.zeroValue59 ?_
            intro b5 v5 hg5 hE5 hH5 hl5
            try simp only [size_alloc, size_setB, size_drew] at hg5
            have hzz5 := hE5.1
            try simp only [size_alloc, size_setB, size_drew] at hzz5
            replace hH5 : Hb v5 b5 (.cells (ic .u64 [0, 0, 0, 0]) 59 (0, 0)) := hH5
            refine ⟨fun _ => (by repeat (first | assumption | exact Ext.refl _ | refine Ext.alloc ?_ _ | refine Ext.drew ?_ | refine Ext.setB ?_ (by first | omega | (simp only [size_alloc, size_setB, size_drew]; omega)) _ | exact Ext.trans (by assumption) (by assumption) | refine Ext.trans ?_ (by assumption))), ?_⟩
            refine WH_nil ?_
            refine F_q (i := 19) rfl (by kernel_rfl) ?_
            first | refine WH_storeW Hvad.sizeOf59 rfl (v := .agg _) rfl (Hb.h (by repeat (first | assumption | exact Hb.newY _ _ | refine Hb.alloc ?_ | refine Hb.drew ?_ | refine Hb.ext (by assumption) ?_ | exact Hb.setSameL (by first | omega | (simp only [size_alloc, size_setB, size_drew]; omega)) | exact Hb.setSame (by assumption) | refine Hb.set (by first | omega | (simp only [size_alloc, size_setB, size_drew]; omega)) ?_ ))) rfl (by first | omega | assumption | rfl | decide | exact Nat.le_refl _ | (simp only [size_ic, Value.cells]; omega) | simp) (by first | omega | assumption | rfl | decide | exact Nat.le_refl _ | (simp only [size_ic, Value.cells]; omega) | simp) (by first | exact oneCell_ic | assumption) (fun h => by cases h) ?_ | refine WH_store Hvad.sizeOf59 rfl (v := .agg _) rfl (Hb.h (by repeat (first | assumption | exact Hb.newY _ _ | refine Hb.alloc ?_ | refine Hb.drew ?_ | refine Hb.ext (by assumption) ?_ | exact Hb.setSameL (by first | omega | (simp only [size_alloc, size_setB, size_drew]; omega)) | exact Hb.setSame (by assumption) | refine Hb.set (by first | omega | (simp only [size_alloc, size_setB, size_drew]; omega)) ?_ ))) (by first | omega | assumption | rfl | decide | exact Nat.le_refl _ | (simp only [size_ic, Value.cells]; omega) | simp) (by first | omega | assumption | rfl | decide | exact Nat.le_refl _ | (simp only [size_ic, Value.cells]; omega) | simp) (by first | exact oneCell_ic | assumption) (fun h => by cases h) ?_
            refine WH_nil ?_
            refine F_q (i := 20) rfl (by kernel_rfl) ?_
            refine WH_p (PS_assign_bool rfl) rfl ?_
            refine WH_nil ?_
            refine F_end ?_
            refine thn_normal ?_
            refine W_seq ?_
            refine W_region rfl ?_
            refine WO_p (PS_move_ptr rfl) ?_
            refine WO_loadA _ Hvad.isAgg59 Hvad.sizeOf59 rfl (Hb.h (by repeat (first | assumption | exact Hb.newY _ _ | refine Hb.alloc ?_ | refine Hb.drew ?_ | refine Hb.ext (by assumption) ?_ | exact Hb.setSameL (by first | omega | (simp only [size_alloc, size_setB, size_drew]; omega)) | exact Hb.setSame (by assumption) | refine Hb.set (by first | omega | (simp only [size_alloc, size_setB, size_drew]; omega)) ?_ ))) (by first | omega | assumption | rfl | decide | exact Nat.le_refl _ | (simp only [size_ic, Value.cells]; omega) | simp) (Xt.h (by first | assumption | exact Xt.whole rfl rfl | exact ed3 (by assumption) | exact Xt.whole rfl (by simp only [size_ic, Value.cells]; omega) | exact ⟨rfl⟩)) ?_
            refine WO_p (PS_nilCheck rfl) ?_
            refine WO_p (PS_fieldAddr 3 Hvad.runUnderlying271 rfl Hvad.sizeOf59 rfl rfl) ?_
            refine WO_store Hvad.sizeOf59 rfl (v := .agg (ic .u64 (ofV ((wv W - wv x) % 115792089237316195423570985008687907853269984665640564039457584007913129639936)))) rfl (Hb.h (by repeat (first | assumption | exact Hb.newY _ _ | refine Hb.alloc ?_ | refine Hb.drew ?_ | refine Hb.ext (by assumption) ?_ | exact Hb.setSameL (by first | omega | (simp only [size_alloc, size_setB, size_drew]; omega)) | exact Hb.setSame (by assumption) | refine Hb.set (by first | omega | (simp only [size_alloc, size_setB, size_drew]; omega)) ?_ ))) (by first | omega | assumption | rfl | decide | exact Nat.le_refl _ | (simp only [size_ic, Value.cells]; omega) | simp) (by rw [size_encD hWl]; decide) (by first | exact oneCell_ic | assumption) ?_
            rw [ed_sum hWl hol]
            refine WO_nil ?_
            refine thn_normal ?_
            refine W_seq ?_
            refine W_seq ?_
            refine W_region rfl ?_
            refine WO_p (PS_move_bool rfl) ?_
            refine WO_nil ?_
            refine thn_normal ?_
            refine W_if rfl (fun hb9 => ?_) (fun hb9 => ?_)
            · have hb9p := hb9.h; try simp only [al_ete, al_dfn, Bool.not_eq_true', Bool.not_eq_false', al_ne, Bool.not_not, al_nn] at hb9p
              refine W_region rfl ?_
              refine WO_p (PS_move_ptr rfl) ?_
              refine WO_p (PS_nilCheck rfl) ?_
              refine WO_p (PS_fieldAddr 7 Hvad.runUnderlying271 rfl Hvad.sizeOf26 rfl rfl) ?_
              refine WO_load (.int _ _) Hvad.isAgg26 rfl (Hb.h (by repeat (first | assumption | exact Hb.newY _ _ | refine Hb.alloc ?_ | refine Hb.drew ?_ | refine Hb.ext (by assumption) ?_ | exact Hb.setSameL (by first | omega | (simp only [size_alloc, size_setB, size_drew]; omega)) | exact Hb.setSame (by assumption) | refine Hb.set (by first | omega | (simp only [size_alloc, size_setB, size_drew]; omega)) ?_ ))) (Ce.h (by first | assumption | exact ed0 | exact ed1 | exact ed2 | exact ed7 (by assumption) | exact ed8 (by assumption) | exact ed9 (by assumption) | exact ⟨rfl⟩)) ?_
              refine WO_p (PS_sub_u64n rfl rfl (by omega) (by omega)) ?_
              refine WO_p (PS_nilCheck rfl) ?_
              refine WO_p (PS_fieldAddr 7 Hvad.runUnderlying271 rfl Hvad.sizeOf26 rfl rfl) ?_
              refine WO_store1 Hvad.sizeOf26 rfl (v := .int _ _) rfl (Hb.h (by repeat (first | assumption | exact Hb.newY _ _ | refine Hb.alloc ?_ | refine Hb.drew ?_ | refine Hb.ext (by assumption) ?_ | exact Hb.setSameL (by first | omega | (simp only [size_alloc, size_setB, size_drew]; omega)) | exact Hb.setSame (by assumption) | refine Hb.set (by first | omega | (simp only [size_alloc, size_setB, size_drew]; omega)) ?_ ))) rfl (by rw [size_encD (by assumption)]; decide) rfl ?_
              rw [ed_q (by assumption)]
              refine WO_nil ?_
              refine thn_normal ?_
              refine W_seq ?_
              refine W_drawE [false, false, false, false, false, false, false, false, false, false, false, false, false, false] hmix (by kernel_rfl) rfl ?_
              refine WH_p (PS_move_ptr rfl) rfl ?_
              refine WH_p (PS_nilCheck rfl) rfl ?_
              refine WH_p (PS_fieldAddr 1 Hvad.runUnderlying271 rfl Hvad.sizeOf269 rfl rfl) rfl ?_
              refine WH_load (.slice _ _ _) Hvad.isAgg269 rfl (Hb.h (by repeat (first | assumption | exact Hb.newY _ _ | refine Hb.alloc ?_ | refine Hb.drew ?_ | refine Hb.ext (by assumption) ?_ | exact Hb.setSameL (by first | omega | (simp only [size_alloc, size_setB, size_drew]; omega)) | exact Hb.setSame (by assumption) | refine Hb.set (by first | omega | (simp only [size_alloc, size_setB, size_drew]; omega)) ?_ ))) (Ce.h (by first | assumption | exact ed0 | exact ed1 | exact ed2 | exact ed7 (by assumption) | exact ed8 (by assumption) | exact ed9 (by assumption) | exact ⟨rfl⟩)) ?_
              refine WH_p (PS_move_ptr rfl) rfl ?_
              refine WH_p (PS_nilCheck rfl) rfl ?_
              refine WH_p (PS_fieldAddr 1 Hvad.runUnderlying173 rfl Hvad.sizeOf21 rfl rfl) rfl ?_
              refine WH_load (.int _ _) Hvad.isAgg21 rfl (Hb.h (by repeat (first | assumption | exact Hb.newY _ _ | refine Hb.alloc ?_ | refine Hb.drew ?_ | refine Hb.ext (by assumption) ?_ | exact Hb.setSameL (by first | omega | (simp only [size_alloc, size_setB, size_drew]; omega)) | exact Hb.setSame (by assumption) | refine Hb.set (by first | omega | (simp only [size_alloc, size_setB, size_drew]; omega)) ?_ ))) (Ce.h (by first | assumption | exact ed0 | exact ed1 | exact ed2 | exact ed7 (by assumption) | exact ed8 (by assumption) | exact ed9 (by assumption) | exact ⟨rfl⟩)) ?_
              refine WH_p (PS_move_ptr rfl) rfl ?_
              refine WH_p (PS_nilCheck rfl) rfl ?_
              refine WH_p (PS_fieldAddr 3 Hvad.runUnderlying173 rfl Hvad.sizeOf59 rfl rfl) rfl ?_
              refine WH_loadA _ Hvad.isAgg59 Hvad.sizeOf59 rfl (Hb.h (by repeat (first | assumption | exact Hb.newY _ _ | refine Hb.alloc ?_ | refine Hb.drew ?_ | refine Hb.ext (by assumption) ?_ | exact Hb.setSameL (by first | omega | (simp only [size_alloc, size_setB, size_drew]; omega)) | exact Hb.setSame (by assumption) | refine Hb.set (by first | omega | (simp only [size_alloc, size_setB, size_drew]; omega)) ?_ ))) (by first | omega | assumption | rfl | decide | exact Nat.le_refl _ | (simp only [size_ic, Value.cells]; omega) | simp) (Xt.h (by first | assumption | exact Xt.whole rfl rfl | exact ed3 (by assumption) | exact Xt.whole rfl (by simp only [size_ic, Value.cells]; omega) | exact ⟨rfl⟩)) ?_
              refine WH_p (PS_indexS Hvad.runUnderlying269 Hvad.sizeOf59 rfl rfl (by omega) (by omega)) rfl ?_
              refine WH_store Hvad.sizeOf59 rfl (v := .agg (ic .u64 ew)) rfl (Hb.h (by repeat (first | assumption | exact Hb.newY _ _ | refine Hb.alloc ?_ | refine Hb.drew ?_ | refine Hb.ext (by assumption) ?_ | exact Hb.setSameL (by first | omega | (simp only [size_alloc, size_setB, size_drew]; omega)) | exact Hb.setSame (by assumption) | refine Hb.set (by first | omega | (simp only [size_alloc, size_setB, size_drew]; omega)) ?_ ))) (by first | omega | assumption | rfl | decide | exact Nat.le_refl _ | (simp only [size_ic, Value.cells]; omega) | simp) (by rw [size_ic, flatW_len hbw]; omega) (by first | exact oneCell_ic | assumption) (fun h => by cases h) ?_
              rw [show Int.toNat (j : Int) = j from Int.toNat_natCast j, wr_set hbw (by omega) hwl]
              refine WH_nil ?_
              refine thn_normal ?_
              refine W_region rfl ?_
              refine WO_p (PS_move_ptr rfl) ?_
              refine WO_p (PS_move_ptr rfl) ?_
              refine WO_p (PS_nilCheck rfl) ?_
              refine WO_p (PS_fieldAddr 3 Hvad.runUnderlying173 rfl Hvad.sizeOf59 rfl rfl) ?_
              refine WO_loadA _ Hvad.isAgg59 Hvad.sizeOf59 rfl (Hb.h (by repeat (first | assumption | exact Hb.newY _ _ | refine Hb.alloc ?_ | refine Hb.drew ?_ | refine Hb.ext (by assumption) ?_ | exact Hb.setSameL (by first | omega | (simp only [size_alloc, size_setB, size_drew]; omega)) | exact Hb.setSame (by assumption) | refine Hb.set (by first | omega | (simp only [size_alloc, size_setB, size_drew]; omega)) ?_ ))) (by first | omega | assumption | rfl | decide | exact Nat.le_refl _ | (simp only [size_ic, Value.cells]; omega) | simp) (Xt.h (by first | assumption | exact Xt.whole rfl rfl | exact ed3 (by assumption) | exact Xt.whole rfl (by simp only [size_ic, Value.cells]; omega) | exact ⟨rfl⟩)) ?_
              refine WO_call Hvad.call272 (by rfl) (Ret.mono (sAdd_spec C D Ba Bv (bl.set j ew) vl (T - wv x) r k ew w _ ⟨(by repeat (first | assumption | exact Ext.refl _ | refine Ext.alloc ?_ _ | refine Ext.drew ?_ | refine Ext.setB ?_ (by first | omega | (simp only [size_alloc, size_setB, size_drew]; omega)) _ | exact Ext.trans (by assumption) (by assumption) | refine Ext.trans ?_ (by assumption))), hDg, hAg, hBg, ⟨hn1, hn2, hn3⟩, ⟨_, q - 1, hoW, by omega, by rw [hov]; omega, by rw [List.length_set]; exact Hb.mk (Hb.h (by repeat (first | assumption | exact Hb.newY _ _ | refine Hb.alloc ?_ | refine Hb.drew ?_ | refine Hb.ext (by assumption) ?_ | exact Hb.setSameL (by first | omega | (simp only [size_alloc, size_setB, size_drew]; omega)) | exact Hb.setSame (by assumption) | refine Hb.set (by first | omega | (simp only [size_alloc, size_setB, size_drew]; omega)) ?_ )))⟩, Hb.mk (Hb.h (by repeat (first | assumption | exact Hb.newY _ _ | refine Hb.alloc ?_ | refine Hb.drew ?_ | refine Hb.ext (by assumption) ?_ | exact Hb.setSameL (by first | omega | (simp only [size_alloc, size_setB, size_drew]; omega)) | exact Hb.setSame (by assumption) | refine Hb.set (by first | omega | (simp only [size_alloc, size_setB, size_drew]; omega)) ?_ ))), Hb.mk (Hb.h (by repeat (first | assumption | exact Hb.newY _ _ | refine Hb.alloc ?_ | refine Hb.drew ?_ | refine Hb.ext (by assumption) ?_ | exact Hb.setSameL (by first | omega | (simp only [size_alloc, size_setB, size_drew]; omega)) | exact Hb.setSame (by assumption) | refine Hb.set (by first | omega | (simp only [size_alloc, size_setB, size_drew]; omega)) ?_ ))), wdl_set hbw hwd j, hvw, by rw [List.length_set]; exact hla, hlv⟩ hwd (by omega)) ?_)
              rintro _ w7 ⟨hS7, hK7⟩
              have hE7 := hS7.ext
              refine WO_nil ?_
              refine inBlk_normal ?_
              refine thn_normal ?_
              refine W_seq ?_
              refine W_region rfl ?_
              refine WO_p (PS_assign_bool rfl) ?_
              refine WO_nil ?_
              refine thn_normal ?_
              refine W_ret ?_
              refine bodyQ_ret1 Hvad.results234 rfl (.bool _) rfl ?_
              rw [hbk]
              exact ⟨rfl, hS7.castY rfl rfl (by dsimp only; omega) rfl hkk, by (repeat (first | assumption | exact KeepO.refl _ _ | refine KeepO.alloc ?_ _ | refine KeepO.dr ?_ | refine KeepO.setB ?_ (by intro hlt; first | exact Or.inl rfl | exact Or.inr (Or.inl rfl) | exact Or.inr (Or.inr rfl) | (exfalso; omega) | (exfalso; simp only [size_alloc, size_setB, size_drew] at hlt; omega)) _ | refine KeepO.tr ?_ (by assumption) | refine KeepO.extR ?_ (by assumption)))⟩
            · have hb9p := hb9.h; try simp only [al_ete, al_dfn, Bool.not_eq_true', Bool.not_eq_false', al_ne, Bool.not_not, al_nn] at hb9p
              refine W_skip ?_
              refine thn_normal ?_
              refine W_seq ?_
              refine W_drawE [false, false, false, false, false, false, false, false, false, false, false, false, false, false] hmix (by kernel_rfl) rfl ?_
              refine WH_p (PS_move_ptr rfl) rfl ?_
              refine WH_p (PS_nilCheck rfl) rfl ?_
              refine WH_p (PS_fieldAddr 1 Hvad.runUnderlying271 rfl Hvad.sizeOf269 rfl rfl) rfl ?_
              refine WH_load (.slice _ _ _) Hvad.isAgg269 rfl (Hb.h (by repeat (first | assumption | exact Hb.newY _ _ | refine Hb.alloc ?_ | refine Hb.drew ?_ | refine Hb.ext (by assumption) ?_ | exact Hb.setSameL (by first | omega | (simp only [size_alloc, size_setB, size_drew]; omega)) | exact Hb.setSame (by assumption) | refine Hb.set (by first | omega | (simp only [size_alloc, size_setB, size_drew]; omega)) ?_ ))) (Ce.h (by first | assumption | exact ed0 | exact ed1 | exact ed2 | exact ed7 (by assumption) | exact ed8 (by assumption) | exact ed9 (by assumption) | exact ⟨rfl⟩)) ?_
              refine WH_p (PS_move_ptr rfl) rfl ?_
              refine WH_p (PS_nilCheck rfl) rfl ?_
              refine WH_p (PS_fieldAddr 1 Hvad.runUnderlying173 rfl Hvad.sizeOf21 rfl rfl) rfl ?_
              refine WH_load (.int _ _) Hvad.isAgg21 rfl (Hb.h (by repeat (first | assumption | exact Hb.newY _ _ | refine Hb.alloc ?_ | refine Hb.drew ?_ | refine Hb.ext (by assumption) ?_ | exact Hb.setSameL (by first | omega | (simp only [size_alloc, size_setB, size_drew]; omega)) | exact Hb.setSame (by assumption) | refine Hb.set (by first | omega | (simp only [size_alloc, size_setB, size_drew]; omega)) ?_ ))) (Ce.h (by first | assumption | exact ed0 | exact ed1 | exact ed2 | exact ed7 (by assumption) | exact ed8 (by assumption) | exact ed9 (by assumption) | exact ⟨rfl⟩)) ?_
              refine WH_p (PS_move_ptr rfl) rfl ?_
              refine WH_p (PS_nilCheck rfl) rfl ?_
              refine WH_p (PS_fieldAddr 3 Hvad.runUnderlying173 rfl Hvad.sizeOf59 rfl rfl) rfl ?_
              refine WH_loadA _ Hvad.isAgg59 Hvad.sizeOf59 rfl (Hb.h (by repeat (first | assumption | exact Hb.newY _ _ | refine Hb.alloc ?_ | refine Hb.drew ?_ | refine Hb.ext (by assumption) ?_ | exact Hb.setSameL (by first | omega | (simp only [size_alloc, size_setB, size_drew]; omega)) | exact Hb.setSame (by assumption) | refine Hb.set (by first | omega | (simp only [size_alloc, size_setB, size_drew]; omega)) ?_ ))) (by first | omega | assumption | rfl | decide | exact Nat.le_refl _ | (simp only [size_ic, Value.cells]; omega) | simp) (Xt.h (by first | assumption | exact Xt.whole rfl rfl | exact ed3 (by assumption) | exact Xt.whole rfl (by simp only [size_ic, Value.cells]; omega) | exact ⟨rfl⟩)) ?_
              refine WH_p (PS_indexS Hvad.runUnderlying269 Hvad.sizeOf59 rfl rfl (by omega) (by omega)) rfl ?_
              refine WH_store Hvad.sizeOf59 rfl (v := .agg (ic .u64 ew)) rfl (Hb.h (by repeat (first | assumption | exact Hb.newY _ _ | refine Hb.alloc ?_ | refine Hb.drew ?_ | refine Hb.ext (by assumption) ?_ | exact Hb.setSameL (by first | omega | (simp only [size_alloc, size_setB, size_drew]; omega)) | exact Hb.setSame (by assumption) | refine Hb.set (by first | omega | (simp only [size_alloc, size_setB, size_drew]; omega)) ?_ ))) (by first | omega | assumption | rfl | decide | exact Nat.le_refl _ | (simp only [size_ic, Value.cells]; omega) | simp) (by rw [size_ic, flatW_len hbw]; omega) (by first | exact oneCell_ic | assumption) (fun h => by cases h) ?_
              rw [show Int.toNat (j : Int) = j from Int.toNat_natCast j, wr_set hbw (by omega) hwl]
              refine WH_nil ?_
              refine thn_normal ?_
              refine W_region rfl ?_
              refine WO_p (PS_move_ptr rfl) ?_
              refine WO_p (PS_move_ptr rfl) ?_
              refine WO_p (PS_nilCheck rfl) ?_
              refine WO_p (PS_fieldAddr 3 Hvad.runUnderlying173 rfl Hvad.sizeOf59 rfl rfl) ?_
              refine WO_loadA _ Hvad.isAgg59 Hvad.sizeOf59 rfl (Hb.h (by repeat (first | assumption | exact Hb.newY _ _ | refine Hb.alloc ?_ | refine Hb.drew ?_ | refine Hb.ext (by assumption) ?_ | exact Hb.setSameL (by first | omega | (simp only [size_alloc, size_setB, size_drew]; omega)) | exact Hb.setSame (by assumption) | refine Hb.set (by first | omega | (simp only [size_alloc, size_setB, size_drew]; omega)) ?_ ))) (by first | omega | assumption | rfl | decide | exact Nat.le_refl _ | (simp only [size_ic, Value.cells]; omega) | simp) (Xt.h (by first | assumption | exact Xt.whole rfl rfl | exact ed3 (by assumption) | exact Xt.whole rfl (by simp only [size_ic, Value.cells]; omega) | exact ⟨rfl⟩)) ?_
              refine WO_call Hvad.call272 (by rfl) (Ret.mono (sAdd_spec C D Ba Bv (bl.set j ew) vl (T - wv x) r k ew w _ ⟨(by repeat (first | assumption | exact Ext.refl _ | refine Ext.alloc ?_ _ | refine Ext.drew ?_ | refine Ext.setB ?_ (by first | omega | (simp only [size_alloc, size_setB, size_drew]; omega)) _ | exact Ext.trans (by assumption) (by assumption) | refine Ext.trans ?_ (by assumption))), hDg, hAg, hBg, ⟨hn1, hn2, hn3⟩, ⟨_, q, hoW, by omega, by rw [hov]; omega, by rw [List.length_set]; exact Hb.mk (Hb.h (by repeat (first | assumption | exact Hb.newY _ _ | refine Hb.alloc ?_ | refine Hb.drew ?_ | refine Hb.ext (by assumption) ?_ | exact Hb.setSameL (by first | omega | (simp only [size_alloc, size_setB, size_drew]; omega)) | exact Hb.setSame (by assumption) | refine Hb.set (by first | omega | (simp only [size_alloc, size_setB, size_drew]; omega)) ?_ )))⟩, Hb.mk (Hb.h (by repeat (first | assumption | exact Hb.newY _ _ | refine Hb.alloc ?_ | refine Hb.drew ?_ | refine Hb.ext (by assumption) ?_ | exact Hb.setSameL (by first | omega | (simp only [size_alloc, size_setB, size_drew]; omega)) | exact Hb.setSame (by assumption) | refine Hb.set (by first | omega | (simp only [size_alloc, size_setB, size_drew]; omega)) ?_ ))), Hb.mk (Hb.h (by repeat (first | assumption | exact Hb.newY _ _ | refine Hb.alloc ?_ | refine Hb.drew ?_ | refine Hb.ext (by assumption) ?_ | exact Hb.setSameL (by first | omega | (simp only [size_alloc, size_setB, size_drew]; omega)) | exact Hb.setSame (by assumption) | refine Hb.set (by first | omega | (simp only [size_alloc, size_setB, size_drew]; omega)) ?_ ))), wdl_set hbw hwd j, hvw, by rw [List.length_set]; exact hla, hlv⟩ hwd (by omega)) ?_)
              rintro _ w7 ⟨hS7, hK7⟩
              have hE7 := hS7.ext
              refine WO_nil ?_
              refine inBlk_normal ?_
              refine thn_normal ?_
              refine W_seq ?_
              refine W_region rfl ?_
              refine WO_p (PS_assign_bool rfl) ?_
              refine WO_nil ?_
              refine thn_normal ?_
              refine W_ret ?_
              refine bodyQ_ret1 Hvad.results234 rfl (.bool _) rfl ?_
              rw [hbk]
              exact ⟨rfl, hS7.castY rfl rfl (by dsimp only; omega) rfl hkk, by (repeat (first | assumption | exact KeepO.refl _ _ | refine KeepO.alloc ?_ _ | refine KeepO.dr ?_ | refine KeepO.setB ?_ (by intro hlt; first | exact Or.inl rfl | exact Or.inr (Or.inl rfl) | exact Or.inr (Or.inr rfl) | (exfalso; omega) | (exfalso; simp only [size_alloc, size_setB, size_drew] at hlt; omega)) _ | refine KeepO.tr ?_ (by assumption) | refine KeepO.extR ?_ (by assumption)))⟩
        · refine WH_allocG Hvad.zeroValue59 ?_
          intro b5 v5 hg5 hE5 hH5 hl5
          try simp only [size_alloc, size_setB, size_drew] at hg5
          have hzz5 := hE5.1
          try simp only [size_alloc, size_setB, size_drew] at hzz5
          replace hH5 : Hb v5 b5 (.cells (ic .u64 [0, 0, 0, 0]) 59 (0, 0)) := hH5
          refine ⟨fun _ => (by repeat (first | assumption | exact Ext.refl _ | refine Ext.alloc ?_ _ | refine Ext.drew ?_ | refine Ext.setB ?_ (by first | omega | (simp only [size_alloc, size_setB, size_drew]; omega)) _ | exact Ext.trans (by assumption) (by assumption) | refine Ext.trans ?_ (by assumption))), ?_⟩
          refine WH_nil ?_
          refine F_q (i := 14) rfl (by kernel_rfl) ?_
          refine WH_call Hvad.call74 (by rfl) (Ret.mono (subUnder_spec W x _ hW hxw) ?_)
          rintro _ w74_11 ⟨rfl, hE74_11⟩
          refine ⟨(fun h => by cases h), ?_⟩
          have hz74_11 := hE74_11.1
          try simp only [size_alloc, size_setB, size_drew] at hz74_11
          refine WH_nil ?_
          refine F_q (i := 15) rfl (by kernel_rfl) ?_
          refine WH_p (PS_move_tuple rfl) rfl ?_
          refine WH_nil ?_
          refine F_q (i := 16) rfl (by kernel_rfl) ?_
          refine WH_p (PS_extract_agg rfl rfl) rfl ?_
          refine WH_nil ?_
          refine F_q (i := 17) rfl (by kernel_rfl) ?_
          refine WH_p (PS_extract_bool rfl rfl) rfl ?_
          refine WH_nil ?_
          refine F_q (i := 19) rfl (by kernel_rfl) ?_
          first | refine WH_storeW Hvad.sizeOf59 rfl (v := .agg _) rfl (Hb.h (by repeat (first | assumption | exact Hb.newY _ _ | refine Hb.alloc ?_ | refine Hb.drew ?_ | refine Hb.ext (by assumption) ?_ | exact Hb.setSameL (by first | omega | (simp only [size_alloc, size_setB, size_drew]; omega)) | exact Hb.setSame (by assumption) | refine Hb.set (by first | omega | (simp only [size_alloc, size_setB, size_drew]; omega)) ?_ ))) rfl (by first | omega | assumption | rfl | decide | exact Nat.le_refl _ | (simp only [size_ic, Value.cells]; omega) | simp) (by first | omega | assumption | rfl | decide | exact Nat.le_refl _ | (simp only [size_ic, Value.cells]; omega) | simp) (by first | exact oneCell_ic | assumption) (fun h => by cases h) ?_ | refine WH_store Hvad.sizeOf59 rfl (v := .agg _) rfl (Hb.h (by repeat (first | assumption | exact Hb.newY _ _ | refine Hb.alloc ?_ | refine Hb.drew ?_ | refine Hb.ext (by assumption) ?_ | exact Hb.setSameL (by first | omega | (simp only [size_alloc, size_setB, size_drew]; omega)) | exact Hb.setSame (by assumption) | refine Hb.set (by first | omega | (simp only [size_alloc, size_setB, size_drew]; omega)) ?_ ))) (by first | omega | assumption | rfl | decide | exact Nat.le_refl _ | (simp only [size_ic, Value.cells]; omega) | simp) (by first | omega | assumption | rfl | decide | exact Nat.le_refl _ | (simp only [size_ic, Value.cells]; omega) | simp) (by first | exact oneCell_ic | assumption) (fun h => by cases h) ?_
          refine WH_nil ?_
          refine F_q (i := 20) rfl (by kernel_rfl) ?_
          refine WH_p (PS_assign_bool rfl) rfl ?_
          refine WH_nil ?_
          refine F_end ?_
          refine thn_normal ?_
          refine W_seq ?_
          refine W_region rfl ?_
          refine WO_p (PS_move_ptr rfl) ?_
          refine WO_loadA _ Hvad.isAgg59 Hvad.sizeOf59 rfl (Hb.h (by repeat (first | assumption | exact Hb.newY _ _ | refine Hb.alloc ?_ | refine Hb.drew ?_ | refine Hb.ext (by assumption) ?_ | exact Hb.setSameL (by first | omega | (simp only [size_alloc, size_setB, size_drew]; omega)) | exact Hb.setSame (by assumption) | refine Hb.set (by first | omega | (simp only [size_alloc, size_setB, size_drew]; omega)) ?_ ))) (by first | omega | assumption | rfl | decide | exact Nat.le_refl _ | (simp only [size_ic, Value.cells]; omega) | simp) (Xt.h (by first | assumption | exact Xt.whole rfl rfl | exact ed3 (by assumption) | exact Xt.whole rfl (by simp only [size_ic, Value.cells]; omega) | exact ⟨rfl⟩)) ?_
          refine WO_p (PS_nilCheck rfl) ?_
          refine WO_p (PS_fieldAddr 3 Hvad.runUnderlying271 rfl Hvad.sizeOf59 rfl rfl) ?_
          refine WO_store Hvad.sizeOf59 rfl (v := .agg (ic .u64 (ofV ((wv W - wv x) % 115792089237316195423570985008687907853269984665640564039457584007913129639936)))) rfl (Hb.h (by repeat (first | assumption | exact Hb.newY _ _ | refine Hb.alloc ?_ | refine Hb.drew ?_ | refine Hb.ext (by assumption) ?_ | exact Hb.setSameL (by first | omega | (simp only [size_alloc, size_setB, size_drew]; omega)) | exact Hb.setSame (by assumption) | refine Hb.set (by first | omega | (simp only [size_alloc, size_setB, size_drew]; omega)) ?_ ))) (by first | omega | assumption | rfl | decide | exact Nat.le_refl _ | (simp only [size_ic, Value.cells]; omega) | simp) (by rw [size_encD hWl]; decide) (by first | exact oneCell_ic | assumption) ?_
          rw [ed_sum hWl hol]
          refine WO_nil ?_
          refine thn_normal ?_
          refine W_seq ?_
          refine W_seq ?_
          refine W_region rfl ?_
          refine WO_p (PS_move_bool rfl) ?_
          refine WO_nil ?_
          refine thn_normal ?_
          refine W_if rfl (fun hb14 => ?_) (fun hb14 => ?_)
          · have hb14p := hb14.h; try simp only [al_ete, al_dfn, Bool.not_eq_true', Bool.not_eq_false', al_ne, Bool.not_not, al_nn] at hb14p
            refine W_region rfl ?_
            refine WO_p (PS_move_ptr rfl) ?_
            refine WO_p (PS_nilCheck rfl) ?_
            refine WO_p (PS_fieldAddr 7 Hvad.runUnderlying271 rfl Hvad.sizeOf26 rfl rfl) ?_
            refine WO_load (.int _ _) Hvad.isAgg26 rfl (Hb.h (by repeat (first | assumption | exact Hb.newY _ _ | refine Hb.alloc ?_ | refine Hb.drew ?_ | refine Hb.ext (by assumption) ?_ | exact Hb.setSameL (by first | omega | (simp only [size_alloc, size_setB, size_drew]; omega)) | exact Hb.setSame (by assumption) | refine Hb.set (by first | omega | (simp only [size_alloc, size_setB, size_drew]; omega)) ?_ ))) (Ce.h (by first | assumption | exact ed0 | exact ed1 | exact ed2 | exact ed7 (by assumption) | exact ed8 (by assumption) | exact ed9 (by assumption) | exact ⟨rfl⟩)) ?_
            refine WO_p (PS_sub_u64n rfl rfl (by omega) (by omega)) ?_
            refine WO_p (PS_nilCheck rfl) ?_
            refine WO_p (PS_fieldAddr 7 Hvad.runUnderlying271 rfl Hvad.sizeOf26 rfl rfl) ?_
            refine WO_store1 Hvad.sizeOf26 rfl (v := .int _ _) rfl (Hb.h (by repeat (first | assumption | exact Hb.newY _ _ | refine Hb.alloc ?_ | refine Hb.drew ?_ | refine Hb.ext (by assumption) ?_ | exact Hb.setSameL (by first | omega | (simp only [size_alloc, size_setB, size_drew]; omega)) | exact Hb.setSame (by assumption) | refine Hb.set (by first | omega | (simp only [size_alloc, size_setB, size_drew]; omega)) ?_ ))) rfl (by rw [size_encD (by assumption)]; decide) rfl ?_
            rw [ed_q (by assumption)]
            refine WO_nil ?_
            refine thn_normal ?_
            refine W_seq ?_
            refine W_drawE [false, false, false, false, false, false, false, false, false, false, false, false, false, false] hmix (by kernel_rfl) rfl ?_
            refine WH_p (PS_move_ptr rfl) rfl ?_
            refine WH_p (PS_nilCheck rfl) rfl ?_
            refine WH_p (PS_fieldAddr 1 Hvad.runUnderlying271 rfl Hvad.sizeOf269 rfl rfl) rfl ?_
            refine WH_load (.slice _ _ _) Hvad.isAgg269 rfl (Hb.h (by repeat (first | assumption | exact Hb.newY _ _ | refine Hb.alloc ?_ | refine Hb.drew ?_ | refine Hb.ext (by assumption) ?_ | exact Hb.setSameL (by first | omega | (simp only [size_alloc, size_setB, size_drew]; omega)) | exact Hb.setSame (by assumption) | refine Hb.set (by first | omega | (simp only [size_alloc, size_setB, size_drew]; omega)) ?_ ))) (Ce.h (by first | assumption | exact ed0 | exact ed1 | exact ed2 | exact ed7 (by assumption) | exact ed8 (by assumption) | exact ed9 (by assumption) | exact ⟨rfl⟩)) ?_
            refine WH_p (PS_move_ptr rfl) rfl ?_
            refine WH_p (PS_nilCheck rfl) rfl ?_
            refine WH_p (PS_fieldAddr 1 Hvad.runUnderlying173 rfl Hvad.sizeOf21 rfl rfl) rfl ?_
            refine WH_load (.int _ _) Hvad.isAgg21 rfl (Hb.h (by repeat (first | assumption | exact Hb.newY _ _ | refine Hb.alloc ?_ | refine Hb.drew ?_ | refine Hb.ext (by assumption) ?_ | exact Hb.setSameL (by first | omega | (simp only [size_alloc, size_setB, size_drew]; omega)) | exact Hb.setSame (by assumption) | refine Hb.set (by first | omega | (simp only [size_alloc, size_setB, size_drew]; omega)) ?_ ))) (Ce.h (by first | assumption | exact ed0 | exact ed1 | exact ed2 | exact ed7 (by assumption) | exact ed8 (by assumption) | exact ed9 (by assumption) | exact ⟨rfl⟩)) ?_
            refine WH_p (PS_move_ptr rfl) rfl ?_
            refine WH_p (PS_nilCheck rfl) rfl ?_
            refine WH_p (PS_fieldAddr 3 Hvad.runUnderlying173 rfl Hvad.sizeOf59 rfl rfl) rfl ?_
            refine WH_loadA _ Hvad.isAgg59 Hvad.sizeOf59 rfl (Hb.h (by repeat (first | assumption | exact Hb.newY _ _ | refine Hb.alloc ?_ | refine Hb.drew ?_ | refine Hb.ext (by assumption) ?_ | exact Hb.setSameL (by first | omega | (simp only [size_alloc, size_setB, size_drew]; omega)) | exact Hb.setSame (by assumption) | refine Hb.set (by first | omega | (simp only [size_alloc, size_setB, size_drew]; omega)) ?_ ))) (by first | omega | assumption | rfl | decide | exact Nat.le_refl _ | (simp only [size_ic, Value.cells]; omega) | simp) (Xt.h (by first | assumption | exact Xt.whole rfl rfl | exact ed3 (by assumption) | exact Xt.whole rfl (by simp only [size_ic, Value.cells]; omega) | exact ⟨rfl⟩)) ?_
            refine WH_p (PS_indexS Hvad.runUnderlying269 Hvad.sizeOf59 rfl rfl (by omega) (by omega)) rfl ?_
            refine WH_store Hvad.sizeOf59 rfl (v := .agg (ic .u64 ew)) rfl (Hb.h (by repeat (first | assumption | exact Hb.newY _ _ | refine Hb.alloc ?_ | refine Hb.drew ?_ | refine Hb.ext (by assumption) ?_ | exact Hb.setSameL (by first | omega | (simp only [size_alloc, size_setB, size_drew]; omega)) | exact Hb.setSame (by assumption) | refine Hb.set (by first | omega | (simp only [size_alloc, size_setB, size_drew]; omega)) ?_ ))) (by first | omega | assumption | rfl | decide | exact Nat.le_refl _ | (simp only [size_ic, Value.cells]; omega) | simp) (by rw [size_ic, flatW_len hbw]; omega) (by first | exact oneCell_ic | assumption) (fun h => by cases h) ?_
            rw [show Int.toNat (j : Int) = j from Int.toNat_natCast j, wr_set hbw (by omega) hwl]
            refine WH_nil ?_
            refine thn_normal ?_
            refine W_region rfl ?_
            refine WO_p (PS_move_ptr rfl) ?_
            refine WO_p (PS_move_ptr rfl) ?_
            refine WO_p (PS_nilCheck rfl) ?_
            refine WO_p (PS_fieldAddr 3 Hvad.runUnderlying173 rfl Hvad.sizeOf59 rfl rfl) ?_
            refine WO_loadA _ Hvad.isAgg59 Hvad.sizeOf59 rfl (Hb.h (by repeat (first | assumption | exact Hb.newY _ _ | refine Hb.alloc ?_ | refine Hb.drew ?_ | refine Hb.ext (by assumption) ?_ | exact Hb.setSameL (by first | omega | (simp only [size_alloc, size_setB, size_drew]; omega)) | exact Hb.setSame (by assumption) | refine Hb.set (by first | omega | (simp only [size_alloc, size_setB, size_drew]; omega)) ?_ ))) (by first | omega | assumption | rfl | decide | exact Nat.le_refl _ | (simp only [size_ic, Value.cells]; omega) | simp) (Xt.h (by first | assumption | exact Xt.whole rfl rfl | exact ed3 (by assumption) | exact Xt.whole rfl (by simp only [size_ic, Value.cells]; omega) | exact ⟨rfl⟩)) ?_
            refine WO_call Hvad.call272 (by rfl) (Ret.mono (sAdd_spec C D Ba Bv (bl.set j ew) vl (T - wv x) r k ew w _ ⟨(by repeat (first | assumption | exact Ext.refl _ | refine Ext.alloc ?_ _ | refine Ext.drew ?_ | refine Ext.setB ?_ (by first | omega | (simp only [size_alloc, size_setB, size_drew]; omega)) _ | exact Ext.trans (by assumption) (by assumption) | refine Ext.trans ?_ (by assumption))), hDg, hAg, hBg, ⟨hn1, hn2, hn3⟩, ⟨_, q - 1, hoW, by omega, by rw [hov]; omega, by rw [List.length_set]; exact Hb.mk (Hb.h (by repeat (first | assumption | exact Hb.newY _ _ | refine Hb.alloc ?_ | refine Hb.drew ?_ | refine Hb.ext (by assumption) ?_ | exact Hb.setSameL (by first | omega | (simp only [size_alloc, size_setB, size_drew]; omega)) | exact Hb.setSame (by assumption) | refine Hb.set (by first | omega | (simp only [size_alloc, size_setB, size_drew]; omega)) ?_ )))⟩, Hb.mk (Hb.h (by repeat (first | assumption | exact Hb.newY _ _ | refine Hb.alloc ?_ | refine Hb.drew ?_ | refine Hb.ext (by assumption) ?_ | exact Hb.setSameL (by first | omega | (simp only [size_alloc, size_setB, size_drew]; omega)) | exact Hb.setSame (by assumption) | refine Hb.set (by first | omega | (simp only [size_alloc, size_setB, size_drew]; omega)) ?_ ))), Hb.mk (Hb.h (by repeat (first | assumption | exact Hb.newY _ _ | refine Hb.alloc ?_ | refine Hb.drew ?_ | refine Hb.ext (by assumption) ?_ | exact Hb.setSameL (by first | omega | (simp only [size_alloc, size_setB, size_drew]; omega)) | exact Hb.setSame (by assumption) | refine Hb.set (by first | omega | (simp only [size_alloc, size_setB, size_drew]; omega)) ?_ ))), wdl_set hbw hwd j, hvw, by rw [List.length_set]; exact hla, hlv⟩ hwd (by omega)) ?_)
            rintro _ w7 ⟨hS7, hK7⟩
            have hE7 := hS7.ext
            refine WO_nil ?_
            refine inBlk_normal ?_
            refine thn_normal ?_
            refine W_seq ?_
            refine W_region rfl ?_
            refine WO_p (PS_assign_bool rfl) ?_
            refine WO_nil ?_
            refine thn_normal ?_
            refine W_ret ?_
            refine bodyQ_ret1 Hvad.results234 rfl (.bool _) rfl ?_
            rw [hbk]
            exact ⟨rfl, hS7.castY rfl rfl (by dsimp only; omega) rfl hkk, by (repeat (first | assumption | exact KeepO.refl _ _ | refine KeepO.alloc ?_ _ | refine KeepO.dr ?_ | refine KeepO.setB ?_ (by intro hlt; first | exact Or.inl rfl | exact Or.inr (Or.inl rfl) | exact Or.inr (Or.inr rfl) | (exfalso; omega) | (exfalso; simp only [size_alloc, size_setB, size_drew] at hlt; omega)) _ | refine KeepO.tr ?_ (by assumption) | refine KeepO.extR ?_ (by assumption)))⟩
          · have hb14p := hb14.h; try simp only [al_ete, al_dfn, Bool.not_eq_true', Bool.not_eq_false', al_ne, Bool.not_not, al_nn] at hb14p
            refine W_skip ?_
            refine thn_normal ?_
            refine W_seq ?_
            refine W_drawE [false, false, false, false, false, false, false, false, false, false, false, false, false, false] hmix (by kernel_rfl) rfl ?_
            refine WH_p (PS_move_ptr rfl) rfl ?_
            refine WH_p (PS_nilCheck rfl) rfl ?_
            refine WH_p (PS_fieldAddr 1 Hvad.runUnderlying271 rfl Hvad.sizeOf269 rfl rfl) rfl ?_
            refine WH_load (.slice _ _ _) Hvad.isAgg269 rfl (Hb.h (by repeat (first | assumption | exact Hb.newY _ _ | refine Hb.alloc ?_ | refine Hb.drew ?_ | refine Hb.ext (by assumption) ?_ | exact Hb.setSameL (by first | omega | (simp only [size_alloc, size_setB, size_drew]; omega)) | exact Hb.setSame (by assumption) | refine Hb.set (by first | omega | (simp only [size_alloc, size_setB, size_drew]; omega)) ?_ ))) (Ce.h (by first | assumption | exact ed0 | exact ed1 | exact ed2 | exact ed7 (by assumption) | exact ed8 (by assumption) | exact ed9 (by assumption) | exact ⟨rfl⟩)) ?_
            refine WH_p (PS_move_ptr rfl) rfl ?_
            refine WH_p (PS_nilCheck rfl) rfl ?_
            refine WH_p (PS_fieldAddr 1 Hvad.runUnderlying173 rfl Hvad.sizeOf21 rfl rfl) rfl ?_
            refine WH_load (.int _ _) Hvad.isAgg21 rfl (Hb.h (by repeat (first | assumption | exact Hb.newY _ _ | refine Hb.alloc ?_ | refine Hb.drew ?_ | refine Hb.ext (by assumption) ?_ | exact Hb.setSameL (by first | omega | (simp only [size_alloc, size_setB, size_drew]; omega)) | exact Hb.setSame (by assumption) | refine Hb.set (by first | omega | (simp only [size_alloc, size_setB, size_drew]; omega)) ?_ ))) (Ce.h (by first | assumption | exact ed0 | exact ed1 | exact ed2 | exact ed7 (by assumption) | exact ed8 (by assumption) | exact ed9 (by assumption) | exact ⟨rfl⟩)) ?_
            refine WH_p (PS_move_ptr rfl) rfl ?_
            refine WH_p (PS_nilCheck rfl) rfl ?_
            refine WH_p (PS_fieldAddr 3 Hvad.runUnderlying173 rfl Hvad.sizeOf59 rfl rfl) rfl ?_
            refine WH_loadA _ Hvad.isAgg59 Hvad.sizeOf59 rfl (Hb.h (by repeat (first | assumption | exact Hb.newY _ _ | refine Hb.alloc ?_ | refine Hb.drew ?_ | refine Hb.ext (by assumption) ?_ | exact Hb.setSameL (by first | omega | (simp only [size_alloc, size_setB, size_drew]; omega)) | exact Hb.setSame (by assumption) | refine Hb.set (by first | omega | (simp only [size_alloc, size_setB, size_drew]; omega)) ?_ ))) (by first | omega | assumption | rfl | decide | exact Nat.le_refl _ | (simp only [size_ic, Value.cells]; omega) | simp) (Xt.h (by first | assumption | exact Xt.whole rfl rfl | exact ed3 (by assumption) | exact Xt.whole rfl (by simp only [size_ic, Value.cells]; omega) | exact ⟨rfl⟩)) ?_
            refine WH_p (PS_indexS Hvad.runUnderlying269 Hvad.sizeOf59 rfl rfl (by omega) (by omega)) rfl ?_
            refine WH_store Hvad.sizeOf59 rfl (v := .agg (ic .u64 ew)) rfl (Hb.h (by repeat (first | assumption | exact Hb.newY _ _ | refine Hb.alloc ?_ | refine Hb.drew ?_ | refine Hb.ext (by assumption) ?_ | exact Hb.setSameL (by first | omega | (simp only [size_alloc, size_setB, size_drew]; omega)) | exact Hb.setSame (by assumption) | refine Hb.set (by first | omega | (simp only [size_alloc, size_setB, size_drew]; omega)) ?_ ))) (by first | omega | assumption | rfl | decide | exact Nat.le_refl _ | (simp only [size_ic, Value.cells]; omega) | simp) (by rw [size_ic, flatW_len hbw]; omega) (by first | exact oneCell_ic | assumption) (fun h => by cases h) ?_
            rw [show Int.toNat (j : Int) = j from Int.toNat_natCast j, wr_set hbw (by omega) hwl]
            refine WH_nil ?_
            refine thn_normal ?_
            refine W_region rfl ?_
            refine WO_p (PS_move_ptr rfl) ?_
            refine WO_p (PS_move_ptr rfl) ?_
            refine WO_p (PS_nilCheck rfl) ?_
            refine WO_p (PS_fieldAddr 3 Hvad.runUnderlying173 rfl Hvad.sizeOf59 rfl rfl) ?_
            refine WO_loadA _ Hvad.isAgg59 Hvad.sizeOf59 rfl (Hb.h (by repeat (first | assumption | exact Hb.newY _ _ | refine Hb.alloc ?_ | refine Hb.drew ?_ | refine Hb.ext (by assumption) ?_ | exact Hb.setSameL (by first | omega | (simp only [size_alloc, size_setB, size_drew]; omega)) | exact Hb.setSame (by assumption) | refine Hb.set (by first | omega | (simp only [size_alloc, size_setB, size_drew]; omega)) ?_ ))) (by first | omega | assumption | rfl | decide | exact Nat.le_refl _ | (simp only [size_ic, Value.cells]; omega) | simp) (Xt.h (by first | assumption | exact Xt.whole rfl rfl | exact ed3 (by assumption) | exact Xt.whole rfl (by simp only [size_ic, Value.cells]; omega) | exact ⟨rfl⟩)) ?_
            refine WO_call Hvad.call272 (by rfl) (Ret.mono (sAdd_spec C D Ba Bv (bl.set j ew) vl (T - wv x) r k ew w _ ⟨(by repeat (first | assumption | exact Ext.refl _ | refine Ext.alloc ?_ _ | refine Ext.drew ?_ | refine Ext.setB ?_ (by first | omega | (simp only [size_alloc, size_setB, size_drew]; omega)) _ | exact Ext.trans (by assumption) (by assumption) | refine Ext.trans ?_ (by assumption))), hDg, hAg, hBg, ⟨hn1, hn2, hn3⟩, ⟨_, q, hoW, by omega, by rw [hov]; omega, by rw [List.length_set]; exact Hb.mk (Hb.h (by repeat (first | assumption | exact Hb.newY _ _ | refine Hb.alloc ?_ | refine Hb.drew ?_ | refine Hb.ext (by assumption) ?_ | exact Hb.setSameL (by first | omega | (simp only [size_alloc, size_setB, size_drew]; omega)) | exact Hb.setSame (by assumption) | refine Hb.set (by first | omega | (simp only [size_alloc, size_setB, size_drew]; omega)) ?_ )))⟩, Hb.mk (Hb.h (by repeat (first | assumption | exact Hb.newY _ _ | refine Hb.alloc ?_ | refine Hb.drew ?_ | refine Hb.ext (by assumption) ?_ | exact Hb.setSameL (by first | omega | (simp only [size_alloc, size_setB, size_drew]; omega)) | exact Hb.setSame (by assumption) | refine Hb.set (by first | omega | (simp only [size_alloc, size_setB, size_drew]; omega)) ?_ ))), Hb.mk (Hb.h (by repeat (first | assumption | exact Hb.newY _ _ | refine Hb.alloc ?_ | refine Hb.drew ?_ | refine Hb.ext (by assumption) ?_ | exact Hb.setSameL (by first | omega | (simp only [size_alloc, size_setB, size_drew]; omega)) | exact Hb.setSame (by assumption) | refine Hb.set (by first | omega | (simp only [size_alloc, size_setB, size_drew]; omega)) ?_ ))), wdl_set hbw hwd j, hvw, by rw [List.length_set]; exact hla, hlv⟩ hwd (by omega)) ?_)
            rintro _ w7 ⟨hS7, hK7⟩
            have hE7 := hS7.ext
            refine WO_nil ?_
            refine inBlk_normal ?_
            refine thn_normal ?_
            refine W_seq ?_
            refine W_region rfl ?_
            refine WO_p (PS_assign_bool rfl) ?_
            refine WO_nil ?_
            refine thn_normal ?_
            refine W_ret ?_
            refine bodyQ_ret1 Hvad.results234 rfl (.bool _) rfl ?_
            rw [hbk]
            exact ⟨rfl, hS7.castY rfl rfl (by dsimp only; omega) rfl hkk, by (repeat (first | assumption | exact KeepO.refl _ _ | refine KeepO.alloc ?_ _ | refine KeepO.dr ?_ | refine KeepO.setB ?_ (by intro hlt; first | exact Or.inl rfl | exact Or.inr (Or.inl rfl) | exact Or.inr (Or.inr rfl) | (exfalso; omega) | (exfalso; simp only [size_alloc, size_setB, size_drew] at hlt; omega)) _ | refine KeepO.tr ?_ (by assumption) | refine KeepO.extR ?_ (by assumption)))⟩
  · have hb2p := hb2.h; try simp only [al_ete, al_dfn, Bool.not_eq_true', Bool.not_eq_false', al_ne, Bool.not_not, al_nn] at hb2p
    have hk0 := hb2p
    refine W_seq ?_
    refine W_region rfl ?_
    refine WO_p (PS_eql rfl rfl) ?_
    refine WO_p (PS_assign_bool rfl) ?_
    refine WO_nil ?_
    refine thn_normal ?_
    refine W_if rfl (fun hb18 => ?_) (fun hb18 => ?_)
    · have hb18p := hb18.h; try simp only [al_ete, al_dfn, Bool.not_eq_true', Bool.not_eq_false', al_ne, Bool.not_not, al_nn] at hb18p
      have hjl : j < vl.length := by omega
      clear hor hae hke
      obtain ⟨x, hx⟩ : ∃ x, vl[j]? = some x := ⟨_, List.getElem?_eq_getElem hjl⟩
      obtain ⟨s, hsl⟩ : ∃ s, v.slots[j]? = some s := ⟨_, List.getElem?_eq_getElem (by omega)⟩
      have hso : v.origs[j]? = some s.orig := by unfold V.origs; rw [List.getElem?_map, hsl]; rfl
      have hcs := clr_step (x := x) (z := s.orig) (o := v.origs) hlv
      have hcn := cleared_nonneg vl v.origs
      have hcl := cleared_le vl v.origs
      have hcb := clr_back (y := ew) hx hso
      have hbk : (Sc.back ⟨ek, (j : Int), en, ew, eb, ef⟩ ⟨bl, vl, r⟩) = ⟨bl, vl.set j ew, r⟩ := by unfold Sc.back; rw [if_neg hk0, if_pos hb18p]; rfl
      refine W_seq ?_
      refine W_seq ?_
      refine W_drawE [false, false, false, false, false, false, false, false, false, false, false, false, false, false, false, false, false, false] hmix (by kernel_rfl) rfl ?_
      refine WH_p (PS_move_ptr rfl) rfl ?_
      refine WH_p (PS_nilCheck rfl) rfl ?_
      refine WH_p (PS_fieldAddr 1 Hvad.runUnderlying173 rfl Hvad.sizeOf21 rfl rfl) rfl ?_
      refine WH_load (.int _ _) Hvad.isAgg21 rfl (Hb.h (by repeat (first | assumption | exact Hb.newY _ _ | refine Hb.alloc ?_ | refine Hb.drew ?_ | refine Hb.ext (by assumption) ?_ | exact Hb.setSameL (by first | omega | (simp only [size_alloc, size_setB, size_drew]; omega)) | exact Hb.setSame (by assumption) | refine Hb.set (by first | omega | (simp only [size_alloc, size_setB, size_drew]; omega)) ?_ ))) (Ce.h (by first | assumption | exact ed0 | exact ed1 | exact ed2 | exact ed7 (by assumption) | exact ed8 (by assumption) | exact ed9 (by assumption) | exact ⟨rfl⟩)) ?_
      refine WH_p (PS_lss rfl rfl) rfl ?_
      refine WH_p (PS_move_bool rfl) rfl ?_
      refine WH_if (t := 87) rfl (fun hb20 => ?_) (fun hb20 => ?_)
      · have hb20p := hb20.h; try simp only [al_ete, al_dfn, Bool.not_eq_true', Bool.not_eq_false', al_ne, Bool.not_not, al_nn] at hb20p
        (exfalso; omega) --END
      · have hb20p := hb20.h; try simp only [al_ete, al_dfn, Bool.not_eq_true', Bool.not_eq_false', al_ne, Bool.not_not, al_nn] at hb20p
        refine WH_guardT rfl rfl hb20.h ?_
        refine WH_p (PS_move_ptr rfl) rfl ?_
        refine WH_guardT rfl rfl hb20.h ?_
        refine WH_p (PS_nilCheck rfl) rfl ?_
        refine WH_guardT rfl rfl hb20.h ?_
        refine WH_p (PS_fieldAddr 1 Hvad.runUnderlying173 rfl Hvad.sizeOf21 rfl rfl) rfl ?_
        refine WH_guardT rfl rfl hb20.h ?_
        refine WH_load (.int _ _) Hvad.isAgg21 rfl (Hb.h (by repeat (first | assumption | exact Hb.newY _ _ | refine Hb.alloc ?_ | refine Hb.drew ?_ | refine Hb.ext (by assumption) ?_ | exact Hb.setSameL (by first | omega | (simp only [size_alloc, size_setB, size_drew]; omega)) | exact Hb.setSame (by assumption) | refine Hb.set (by first | omega | (simp only [size_alloc, size_setB, size_drew]; omega)) ?_ ))) (Ce.h (by first | assumption | exact ed0 | exact ed1 | exact ed2 | exact ed7 (by assumption) | exact ed8 (by assumption) | exact ed9 (by assumption) | exact ⟨rfl⟩)) ?_
        refine WH_guardT rfl rfl hb20.h ?_
        refine WH_p (PS_conv_i64n Hvad.runUnderlying21 Hvad.runUnderlying3 rfl (by omega) (by omega)) rfl ?_
        refine WH_guardT rfl rfl hb20.h ?_
        refine WH_p (PS_move_ptr rfl) rfl ?_
        refine WH_guardT rfl rfl hb20.h ?_
        refine WH_p (PS_nilCheck rfl) rfl ?_
        refine WH_guardT rfl rfl hb20.h ?_
        refine WH_p (PS_fieldAddr 2 Hvad.runUnderlying271 rfl Hvad.sizeOf269 rfl rfl) rfl ?_
        refine WH_guardT rfl rfl hb20.h ?_
        refine WH_load (.slice _ _ _) Hvad.isAgg269 rfl (Hb.h (by repeat (first | assumption | exact Hb.newY _ _ | refine Hb.alloc ?_ | refine Hb.drew ?_ | refine Hb.ext (by assumption) ?_ | exact Hb.setSameL (by first | omega | (simp only [size_alloc, size_setB, size_drew]; omega)) | exact Hb.setSame (by assumption) | refine Hb.set (by first | omega | (simp only [size_alloc, size_setB, size_drew]; omega)) ?_ ))) (Ce.h (by first | assumption | exact ed0 | exact ed1 | exact ed2 | exact ed7 (by assumption) | exact ed8 (by assumption) | exact ed9 (by assumption) | exact ⟨rfl⟩)) ?_
        refine WH_guardT rfl rfl hb20.h ?_
        refine WH_p (PS_lenS Hvad.runUnderlying269 rfl) rfl ?_
        refine WH_guardT rfl rfl hb20.h ?_
        refine WH_p (PS_geq rfl rfl) rfl ?_
        refine WH_p (PS_pickF rfl hb20.h rfl) rfl ?_
        refine WH_nil ?_
        refine thn_normal ?_
        refine W_if rfl (fun hb22 => ?_) (fun hb22 => ?_)
        · have hb22p := hb22.h; try simp only [al_ete, al_dfn, Bool.not_eq_true', Bool.not_eq_false', al_ne, Bool.not_not, al_nn] at hb22p
          (exfalso; omega) --END
        · have hb22p := hb22.h; try simp only [al_ete, al_dfn, Bool.not_eq_true', Bool.not_eq_false', al_ne, Bool.not_not, al_nn] at hb22p
          refine W_skip ?_
          refine thn_normal ?_
          refine W_seq ?_
          refine W_region rfl ?_
          refine WO_p (PS_move_ptr rfl) ?_
          refine WO_p (PS_move_ptr rfl) ?_
          refine WO_p (PS_nilCheck rfl) ?_
          refine WO_p (PS_fieldAddr 1 Hvad.runUnderlying173 rfl Hvad.sizeOf21 rfl rfl) ?_
          refine WO_load (.int _ _) Hvad.isAgg21 rfl (Hb.h (by repeat (first | assumption | exact Hb.newY _ _ | refine Hb.alloc ?_ | refine Hb.drew ?_ | refine Hb.ext (by assumption) ?_ | exact Hb.setSameL (by first | omega | (simp only [size_alloc, size_setB, size_drew]; omega)) | exact Hb.setSame (by assumption) | refine Hb.set (by first | omega | (simp only [size_alloc, size_setB, size_drew]; omega)) ?_ ))) (Ce.h (by first | assumption | exact ed0 | exact ed1 | exact ed2 | exact ed7 (by assumption) | exact ed8 (by assumption) | exact ed9 (by assumption) | exact ⟨rfl⟩)) ?_
          refine WO_p (PS_conv_i64n Hvad.runUnderlying21 Hvad.runUnderlying3 rfl (by omega) (by omega)) ?_
          refine WO_call Hvad.call273 (by rfl) (Ret.mono (sCount_spec C D Ba Bv bl vl T r k c v B β j (-1) x s w _ ⟨(by repeat (first | assumption | exact Ext.refl _ | refine Ext.alloc ?_ _ | refine Ext.drew ?_ | refine Ext.setB ?_ (by first | omega | (simp only [size_alloc, size_setB, size_drew]; omega)) _ | exact Ext.trans (by assumption) (by assumption) | refine Ext.trans ?_ (by assumption))), hDg, hAg, hBg, ⟨hn1, hn2, hn3⟩, ⟨W, q, hW, hq0, hsum, Hb.mk (Hb.h (by repeat (first | assumption | exact Hb.newY _ _ | refine Hb.alloc ?_ | refine Hb.drew ?_ | refine Hb.ext (by assumption) ?_ | exact Hb.setSameL (by first | omega | (simp only [size_alloc, size_setB, size_drew]; omega)) | exact Hb.setSame (by assumption) | refine Hb.set (by first | omega | (simp only [size_alloc, size_setB, size_drew]; omega)) ?_ )))⟩, Hb.mk (Hb.h (by repeat (first | assumption | exact Hb.newY _ _ | refine Hb.alloc ?_ | refine Hb.drew ?_ | refine Hb.ext (by assumption) ?_ | exact Hb.setSameL (by first | omega | (simp only [size_alloc, size_setB, size_drew]; omega)) | exact Hb.setSame (by assumption) | refine Hb.set (by first | omega | (simp only [size_alloc, size_setB, size_drew]; omega)) ?_ ))), Hb.mk (Hb.h (by repeat (first | assumption | exact Hb.newY _ _ | refine Hb.alloc ?_ | refine Hb.drew ?_ | refine Hb.ext (by assumption) ?_ | exact Hb.setSameL (by first | omega | (simp only [size_alloc, size_setB, size_drew]; omega)) | exact Hb.setSame (by assumption) | refine Hb.set (by first | omega | (simp only [size_alloc, size_setB, size_drew]; omega)) ?_ ))), hbw, hvw, hla, hlv⟩ hv hx hsl (by omega) (Or.inr rfl)) ?_)
          rintro _ w6 ⟨hS6, hK6⟩
          obtain ⟨hE6, -, -, -, -, ⟨W6, q6, hW6, hq6, hsum6, hHD6⟩, hHA6, hHV6, -, -, -, -⟩ := hS6
          have hWl6 := hW6.1
          have hz6 := hE6.1
          have hDl6 := hHD6.lt
          have hAl6 := hHA6.lt
          have hVl6 := hHV6.lt
          clear hHD hHA hHV
          refine WO_nil ?_
          refine thn_normal ?_
          refine W_seq ?_
          refine W_drawE [false, false, false, false, false, false, false, false, false, false, false, false, false, false] hmix (by kernel_rfl) rfl ?_
          refine WH_p (PS_move_ptr rfl) rfl ?_
          refine WH_p (PS_nilCheck rfl) rfl ?_
          refine WH_p (PS_fieldAddr 2 Hvad.runUnderlying271 rfl Hvad.sizeOf269 rfl rfl) rfl ?_
          refine WH_load (.slice _ _ _) Hvad.isAgg269 rfl (Hb.h (by repeat (first | assumption | exact Hb.newY _ _ | refine Hb.alloc ?_ | refine Hb.drew ?_ | refine Hb.ext (by assumption) ?_ | exact Hb.setSameL (by first | omega | (simp only [size_alloc, size_setB, size_drew]; omega)) | exact Hb.setSame (by assumption) | refine Hb.set (by first | omega | (simp only [size_alloc, size_setB, size_drew]; omega)) ?_ ))) (Ce.h (by first | assumption | exact ed0 | exact ed1 | exact ed2 | exact ed7 (by assumption) | exact ed8 (by assumption) | exact ed9 (by assumption) | exact ⟨rfl⟩)) ?_
          refine WH_p (PS_move_ptr rfl) rfl ?_
          refine WH_p (PS_nilCheck rfl) rfl ?_
          refine WH_p (PS_fieldAddr 1 Hvad.runUnderlying173 rfl Hvad.sizeOf21 rfl rfl) rfl ?_
          refine WH_load (.int _ _) Hvad.isAgg21 rfl (Hb.h (by repeat (first | assumption | exact Hb.newY _ _ | refine Hb.alloc ?_ | refine Hb.drew ?_ | refine Hb.ext (by assumption) ?_ | exact Hb.setSameL (by first | omega | (simp only [size_alloc, size_setB, size_drew]; omega)) | exact Hb.setSame (by assumption) | refine Hb.set (by first | omega | (simp only [size_alloc, size_setB, size_drew]; omega)) ?_ ))) (Ce.h (by first | assumption | exact ed0 | exact ed1 | exact ed2 | exact ed7 (by assumption) | exact ed8 (by assumption) | exact ed9 (by assumption) | exact ⟨rfl⟩)) ?_
          refine WH_p (PS_move_ptr rfl) rfl ?_
          refine WH_p (PS_nilCheck rfl) rfl ?_
          refine WH_p (PS_fieldAddr 3 Hvad.runUnderlying173 rfl Hvad.sizeOf59 rfl rfl) rfl ?_
          refine WH_loadA _ Hvad.isAgg59 Hvad.sizeOf59 rfl (Hb.h (by repeat (first | assumption | exact Hb.newY _ _ | refine Hb.alloc ?_ | refine Hb.drew ?_ | refine Hb.ext (by assumption) ?_ | exact Hb.setSameL (by first | omega | (simp only [size_alloc, size_setB, size_drew]; omega)) | exact Hb.setSame (by assumption) | refine Hb.set (by first | omega | (simp only [size_alloc, size_setB, size_drew]; omega)) ?_ ))) (by first | omega | assumption | rfl | decide | exact Nat.le_refl _ | (simp only [size_ic, Value.cells]; omega) | simp) (Xt.h (by first | assumption | exact Xt.whole rfl rfl | exact ed3 (by assumption) | exact Xt.whole rfl (by simp only [size_ic, Value.cells]; omega) | exact ⟨rfl⟩)) ?_
          refine WH_p (PS_indexS Hvad.runUnderlying269 Hvad.sizeOf59 rfl rfl (by omega) (by omega)) rfl ?_
          refine WH_store Hvad.sizeOf59 rfl (v := .agg (ic .u64 ew)) rfl (Hb.h (by repeat (first | assumption | exact Hb.newY _ _ | refine Hb.alloc ?_ | refine Hb.drew ?_ | refine Hb.ext (by assumption) ?_ | exact Hb.setSameL (by first | omega | (simp only [size_alloc, size_setB, size_drew]; omega)) | exact Hb.setSame (by assumption) | refine Hb.set (by first | omega | (simp only [size_alloc, size_setB, size_drew]; omega)) ?_ ))) (by first | omega | assumption | rfl | decide | exact Nat.le_refl _ | (simp only [size_ic, Value.cells]; omega) | simp) (by rw [size_ic, flatW_len hvw]; omega) (by first | exact oneCell_ic | assumption) (fun h => by cases h) ?_
          rw [show Int.toNat (j : Int) = j from Int.toNat_natCast j, wr_set hvw (by omega) hwl]
          refine WH_nil ?_
          refine thn_normal ?_
          refine W_region rfl ?_
          refine WO_p (PS_move_ptr rfl) ?_
          refine WO_p (PS_move_ptr rfl) ?_
          refine WO_p (PS_nilCheck rfl) ?_
          refine WO_p (PS_fieldAddr 1 Hvad.runUnderlying173 rfl Hvad.sizeOf21 rfl rfl) ?_
          refine WO_load (.int _ _) Hvad.isAgg21 rfl (Hb.h (by repeat (first | assumption | exact Hb.newY _ _ | refine Hb.alloc ?_ | refine Hb.drew ?_ | refine Hb.ext (by assumption) ?_ | exact Hb.setSameL (by first | omega | (simp only [size_alloc, size_setB, size_drew]; omega)) | exact Hb.setSame (by assumption) | refine Hb.set (by first | omega | (simp only [size_alloc, size_setB, size_drew]; omega)) ?_ ))) (Ce.h (by first | assumption | exact ed0 | exact ed1 | exact ed2 | exact ed7 (by assumption) | exact ed8 (by assumption) | exact ed9 (by assumption) | exact ⟨rfl⟩)) ?_
          refine WO_p (PS_conv_i64n Hvad.runUnderlying21 Hvad.runUnderlying3 rfl (by omega) (by omega)) ?_
          refine WO_call Hvad.call273 (by rfl) (Ret.mono (sCount_spec C D Ba Bv bl (vl.set j ew) T r _ c v B β j 1 ew s w _ ⟨(by repeat (first | assumption | exact Ext.refl _ | refine Ext.alloc ?_ _ | refine Ext.drew ?_ | refine Ext.setB ?_ (by first | omega | (simp only [size_alloc, size_setB, size_drew]; omega)) _ | exact Ext.trans (by assumption) (by assumption) | refine Ext.trans ?_ (by assumption))), hDg, hAg, hBg, ⟨hn1, hn2, hn3⟩, ⟨W6, q6, hW6, hq6, hsum6, by rw [List.length_set]; exact Hb.mk (Hb.h (by repeat (first | assumption | exact Hb.newY _ _ | refine Hb.alloc ?_ | refine Hb.drew ?_ | refine Hb.ext (by assumption) ?_ | exact Hb.setSameL (by first | omega | (simp only [size_alloc, size_setB, size_drew]; omega)) | exact Hb.setSame (by assumption) | refine Hb.set (by first | omega | (simp only [size_alloc, size_setB, size_drew]; omega)) ?_ )))⟩, Hb.mk (Hb.h (by repeat (first | assumption | exact Hb.newY _ _ | refine Hb.alloc ?_ | refine Hb.drew ?_ | refine Hb.ext (by assumption) ?_ | exact Hb.setSameL (by first | omega | (simp only [size_alloc, size_setB, size_drew]; omega)) | exact Hb.setSame (by assumption) | refine Hb.set (by first | omega | (simp only [size_alloc, size_setB, size_drew]; omega)) ?_ ))), Hb.mk (Hb.h (by repeat (first | assumption | exact Hb.newY _ _ | refine Hb.alloc ?_ | refine Hb.drew ?_ | refine Hb.ext (by assumption) ?_ | exact Hb.setSameL (by first | omega | (simp only [size_alloc, size_setB, size_drew]; omega)) | exact Hb.setSame (by assumption) | refine Hb.set (by first | omega | (simp only [size_alloc, size_setB, size_drew]; omega)) ?_ ))), hbw, wdl_set hvw hwd j, hla, by rw [List.length_set]; exact hlv⟩ hv (List.getElem?_set_self hjl) hsl (by rw [hkk]; omega) (Or.inl rfl)) ?_)
          rintro _ w7 ⟨hS7, hK7⟩
          have hE7 := hS7.ext
          refine WO_nil ?_
          refine inBlk_normal ?_
          refine thn_normal ?_
          refine W_seq ?_
          refine W_region rfl ?_
          refine WO_p (PS_assign_bool rfl) ?_
          refine WO_nil ?_
          refine thn_normal ?_
          refine W_ret ?_
          refine bodyQ_ret1 Hvad.results234 rfl (.bool _) rfl ?_
          rw [hbk]
          exact ⟨rfl, hS7.castY rfl rfl (by rw [hT]) rfl (by rw [hkk]; exact hcb), by (repeat (first | assumption | exact KeepO.refl _ _ | refine KeepO.alloc ?_ _ | refine KeepO.dr ?_ | refine KeepO.setB ?_ (by intro hlt; first | exact Or.inl rfl | exact Or.inr (Or.inl rfl) | exact Or.inr (Or.inr rfl) | (exfalso; omega) | (exfalso; simp only [size_alloc, size_setB, size_drew] at hlt; omega)) _ | refine KeepO.tr ?_ (by assumption) | refine KeepO.extR ?_ (by assumption)))⟩
    · have hb18p := hb18.h; try simp only [al_ete, al_dfn, Bool.not_eq_true', Bool.not_eq_false', al_ne, Bool.not_not, al_nn] at hb18p
      have hk3 := hb18p
      refine W_seq ?_
      refine W_region rfl ?_
      refine WO_p (PS_eql rfl rfl) ?_
      refine WO_p (PS_assign_bool rfl) ?_
      refine WO_nil ?_
      refine thn_normal ?_
      refine W_if rfl (fun hb26 => ?_) (fun hb26 => ?_)
      · have hb26p := hb26.h; try simp only [al_ete, al_dfn, Bool.not_eq_true', Bool.not_eq_false', al_ne, Bool.not_not, al_nn] at hb26p
        clear hor
        have hbk : (Sc.back ⟨ek, (j : Int), en, ew, eb, ef⟩ ⟨bl, vl, r⟩) = ⟨bl, vl, en⟩ := by unfold Sc.back; rw [if_neg hk0, if_neg hk3, if_pos hb26p]
        refine W_region rfl ?_
        refine WO_p (PS_move_ptr rfl) ?_
        refine WO_p (PS_move_ptr rfl) ?_
        refine WO_p (PS_nilCheck rfl) ?_
        refine WO_p (PS_fieldAddr 2 Hvad.runUnderlying173 rfl Hvad.sizeOf26 rfl rfl) ?_
        refine WO_load (.int _ _) Hvad.isAgg26 rfl (Hb.h (by repeat (first | assumption | exact Hb.newY _ _ | refine Hb.alloc ?_ | refine Hb.drew ?_ | refine Hb.ext (by assumption) ?_ | exact Hb.setSameL (by first | omega | (simp only [size_alloc, size_setB, size_drew]; omega)) | exact Hb.setSame (by assumption) | refine Hb.set (by first | omega | (simp only [size_alloc, size_setB, size_drew]; omega)) ?_ ))) (Ce.h (by first | assumption | exact ed0 | exact ed1 | exact ed2 | exact ed7 (by assumption) | exact ed8 (by assumption) | exact ed9 (by assumption) | exact ⟨rfl⟩)) ?_
        refine WO_p (PS_nilCheck rfl) ?_
        refine WO_p (PS_fieldAddr 8 Hvad.runUnderlying271 rfl Hvad.sizeOf26 rfl rfl) ?_
        refine WO_store1 Hvad.sizeOf26 rfl (v := .int _ _) rfl (Hb.h (by repeat (first | assumption | exact Hb.newY _ _ | refine Hb.alloc ?_ | refine Hb.drew ?_ | refine Hb.ext (by assumption) ?_ | exact Hb.setSameL (by first | omega | (simp only [size_alloc, size_setB, size_drew]; omega)) | exact Hb.setSame (by assumption) | refine Hb.set (by first | omega | (simp only [size_alloc, size_setB, size_drew]; omega)) ?_ ))) rfl (by rw [size_encD (by assumption)]; decide) rfl ?_
        rw [ed_r (by assumption)]
        refine WO_nil ?_
        refine inBlk_normal ?_
        refine thn_normal ?_
        refine W_seq ?_
        refine W_region rfl ?_
        refine WO_p (PS_assign_bool rfl) ?_
        refine WO_nil ?_
        refine thn_normal ?_
        refine W_ret ?_
        refine bodyQ_ret1 Hvad.results234 rfl (.bool _) rfl ?_
        rw [hbk]
        exact ⟨rfl, ⟨(by repeat (first | assumption | exact Ext.refl _ | refine Ext.alloc ?_ _ | refine Ext.drew ?_ | refine Ext.setB ?_ (by first | omega | (simp only [size_alloc, size_setB, size_drew]; omega)) _ | exact Ext.trans (by assumption) (by assumption) | refine Ext.trans ?_ (by assumption))), hDg, hAg, hBg, ⟨hn1, hn2, hn3⟩, ⟨W, q, hW, hq0, by rw [hsum, hT], by rw [← hkk]; exact Hb.mk (Hb.h (by repeat (first | assumption | exact Hb.newY _ _ | refine Hb.alloc ?_ | refine Hb.drew ?_ | refine Hb.ext (by assumption) ?_ | exact Hb.setSameL (by first | omega | (simp only [size_alloc, size_setB, size_drew]; omega)) | exact Hb.setSame (by assumption) | refine Hb.set (by first | omega | (simp only [size_alloc, size_setB, size_drew]; omega)) ?_ )))⟩, Hb.mk (Hb.h (by repeat (first | assumption | exact Hb.newY _ _ | refine Hb.alloc ?_ | refine Hb.drew ?_ | refine Hb.ext (by assumption) ?_ | exact Hb.setSameL (by first | omega | (simp only [size_alloc, size_setB, size_drew]; omega)) | exact Hb.setSame (by assumption) | refine Hb.set (by first | omega | (simp only [size_alloc, size_setB, size_drew]; omega)) ?_ ))), Hb.mk (Hb.h (by repeat (first | assumption | exact Hb.newY _ _ | refine Hb.alloc ?_ | refine Hb.drew ?_ | refine Hb.ext (by assumption) ?_ | exact Hb.setSameL (by first | omega | (simp only [size_alloc, size_setB, size_drew]; omega)) | exact Hb.setSame (by assumption) | refine Hb.set (by first | omega | (simp only [size_alloc, size_setB, size_drew]; omega)) ?_ ))), hbw, hvw, hla, hlv⟩, by (repeat (first | assumption | exact KeepO.refl _ _ | refine KeepO.alloc ?_ _ | refine KeepO.dr ?_ | refine KeepO.setB ?_ (by intro hlt; first | exact Or.inl rfl | exact Or.inr (Or.inl rfl) | exact Or.inr (Or.inr rfl) | (exfalso; omega) | (exfalso; simp only [size_alloc, size_setB, size_drew] at hlt; omega)) _ | refine KeepO.tr ?_ (by assumption) | refine KeepO.extR ?_ (by assumption)))⟩
      · have hb26p := hb26.h; try simp only [al_ete, al_dfn, Bool.not_eq_true', Bool.not_eq_false', al_ne, Bool.not_not, al_nn] at hb26p
        clear hor
        have hbk : (Sc.back ⟨ek, (j : Int), en, ew, eb, ef⟩ ⟨bl, vl, r⟩) = ⟨bl, vl, r⟩ := by unfold Sc.back; rw [if_neg hk0, if_neg hk3, if_neg hb26p]
        refine W_skip ?_
        refine inBlk_normal ?_
        refine thn_normal ?_
        refine W_seq ?_
        refine W_region rfl ?_
        refine WO_p (PS_assign_bool rfl) ?_
        refine WO_nil ?_
        refine thn_normal ?_
        refine W_ret ?_
        refine bodyQ_ret1 Hvad.results234 rfl (.bool _) rfl ?_
        rw [hbk]
        exact ⟨rfl, ⟨(by repeat (first | assumption | exact Ext.refl _ | refine Ext.alloc ?_ _ | refine Ext.drew ?_ | refine Ext.setB ?_ (by first | omega | (simp only [size_alloc, size_setB, size_drew]; omega)) _ | exact Ext.trans (by assumption) (by assumption) | refine Ext.trans ?_ (by assumption))), hDg, hAg, hBg, ⟨hn1, hn2, hn3⟩, ⟨W, q, hW, hq0, by rw [hsum, hT], by rw [← hkk]; exact Hb.mk (Hb.h (by repeat (first | assumption | exact Hb.newY _ _ | refine Hb.alloc ?_ | refine Hb.drew ?_ | refine Hb.ext (by assumption) ?_ | exact Hb.setSameL (by first | omega | (simp only [size_alloc, size_setB, size_drew]; omega)) | exact Hb.setSame (by assumption) | refine Hb.set (by first | omega | (simp only [size_alloc, size_setB, size_drew]; omega)) ?_ )))⟩, Hb.mk (Hb.h (by repeat (first | assumption | exact Hb.newY _ _ | refine Hb.alloc ?_ | refine Hb.drew ?_ | refine Hb.ext (by assumption) ?_ | exact Hb.setSameL (by first | omega | (simp only [size_alloc, size_setB, size_drew]; omega)) | exact Hb.setSame (by assumption) | refine Hb.set (by first | omega | (simp only [size_alloc, size_setB, size_drew]; omega)) ?_ ))), Hb.mk (Hb.h (by repeat (first | assumption | exact Hb.newY _ _ | refine Hb.alloc ?_ | refine Hb.drew ?_ | refine Hb.ext (by assumption) ?_ | exact Hb.setSameL (by first | omega | (simp only [size_alloc, size_setB, size_drew]; omega)) | exact Hb.setSame (by assumption) | refine Hb.set (by first | omega | (simp only [size_alloc, size_setB, size_drew]; omega)) ?_ ))), hbw, hvw, hla, hlv⟩, by (repeat (first | assumption | exact KeepO.refl _ _ | refine KeepO.alloc ?_ _ | refine KeepO.dr ?_ | refine KeepO.setB ?_ (by intro hlt; first | exact Or.inl rfl | exact Or.inr (Or.inl rfl) | exact Or.inr (Or.inr rfl) | (exfalso; omega) | (exfalso; simp only [size_alloc, size_setB, size_drew] at hlt; omega)) _ | refine KeepO.tr ?_ (by assumption) | refine KeepO.extR ?_ (by assumption)))⟩

end Go.Proofs.YgvadwGreat
