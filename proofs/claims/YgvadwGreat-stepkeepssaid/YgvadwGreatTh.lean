import Derived.Test.YgvadwGreatTg
namespace Go.Proofs.YgvadwGreat
set_option linter.unusedSimpArgs false
set_option linter.unusedVariables false
theorem Ck.cost {v : V} {m : Mc} {n : Nat} {S : Int} (h : Ck v m n S) (hty : MTy m) : ∀ k j, k + j = n → 0 ≤ costTo m.frames m.base k ∧ costTo m.frames m.base k ≤ costTo m.frames m.base n := by
  have termY : ∀ i, i < n → 0 ≤ gasOf m.frames i + memCost ((szOf m.base i + 31) / 32) := by
    intro i hi
    have h1 := gasOf_nn hty i
    have h2 := memCost_nonneg (n := (szOf m.base i + 31) / 32) (by have := (h.bs i hi).1; omega)
    omega
  have h0 : ∀ k, k ≤ n → 0 ≤ costTo m.frames m.base k := by
    intro k
    induction k with
    | zero => intro _; exact Int.le_refl _
    | succ k ih => intro hk; have := ih (by omega); have := termY k (by omega); simp only [costTo]; omega
  intro k j
  induction j generalizing k with
  | zero => intro e; rw [show k = n by omega]; exact ⟨h0 n (Nat.le_refl _), Int.le_refl _⟩
  | succ j ih =>
    intro e
    have h1 := ih (k + 1) (by omega)
    have h2 := termY k (by omega)
    simp only [costTo] at h1
    exact ⟨h0 k (by omega), by omega⟩

set_option maxRecDepth 10000 in
set_option maxHeartbeats 4000000 in
theorem gasOK_spec (C : Nat) (c : Array Value) (v : V) (B : VB) (m : Mc) (n : Nat) (S : Int) (w : World) (hM : MS w C c v B m) (hk : Ck v m n S) : Ret Hvad.prog 140 #[.pointer (some ⟨C, 0, none⟩)] w fun u w' => u = .bool true ∧ Ext w w' := by
  have hblk := hM.vs.blk
  have hCl := hblk.lt
  have hcs := hM.sz
  have hc_s := hM.rep.s
  have hc_top := hM.rep.top
  rw [hk.top] at hc_top
  have hc_phase := hM.rep.phase
  have hn7 := hk.n7
  have hph := hk.ph
  have hpt := hM.ty.phase
  have hc_lim := hM.rep.limit
  have hc_tx := hM.rep.txgas
  have hc_price := hM.rep.price
  have hc_held := hM.rep.held
  have hc_bf := hM.rep.ebfee
  have hlt := hM.ty.limit
  have hpt2 := hM.ty.price
  have hhd := hM.ty.held
  have hbft := hM.ty.ebfee
  have hprl := hpt2.1
  have hhdl := hhd.1
  have hbfl := hbft.1
  have hlm := hk.lm
  have hfw := fromB_wd hbft.2
  have hmc := hk.mc
  have hwl := limb_wd hlt
  have hwlv : wv [m.limit, 0, 0, 0] = m.limit := by show m.limit + 0 * _ + 0 * _ + 0 * _ = _; omega
  have hhb := wv_bd hhd
  refine Ret_of_W Hvad.func140 rfl rfl ?_
  refine W_seq ?_
  refine W_region rfl ?_
  refine WO_p (PS_assign_bool rfl) ?_
  refine WO_nil ?_
  refine thn_normal ?_
  refine W_seq ?_
  refine W_seq ?_
  refine W_region rfl ?_
  refine WO_p (PS_move_ptr rfl) ?_
  refine WO_call Hvad.call230 (by rfl) (Ret.mono (spent_spec C c v B m n S _ (MS.ext hM (by repeat (first | assumption | exact Ext.refl _ | refine Ext.alloc ?_ _ | refine Ext.drew ?_ | refine Ext.setB ?_ (by first | omega | (simp only [size_alloc, size_setB, size_drew]; omega)) _ | exact Ext.trans (by assumption) (by assumption) | refine Ext.trans ?_ (by assumption)))) hk) ?_)
  rintro _ w230_0 ⟨rfl, hE230_0⟩
  have hz230_0 := hE230_0.1
  try simp only [size_alloc, size_setB, size_drew] at hz230_0
  refine WO_p (PS_move_tuple rfl) ?_
  refine WO_p (PS_extract_int rfl rfl) ?_
  refine WO_p (PS_extract_bool rfl rfl) ?_
  refine WO_p (PS_assign_int rfl) ?_
  refine WO_p (PS_assign_bool rfl) ?_
  refine WO_nil ?_
  refine thn_normal ?_
  refine W_seq ?_
  refine W_region rfl ?_
  refine WO_p (PS_move_bool rfl) ?_
  refine WO_p (PS_not rfl) ?_
  refine WO_p (PS_move_bool rfl) ?_
  refine WO_if (t := 19) rfl (fun hb4 => ?_) (fun hb4 => ?_)
  · have hb4p := hb4.h; try simp only [al_ete, al_dfn, Bool.not_eq_true', Bool.not_eq_false', al_ne, Bool.not_not, al_nn] at hb4p
    simp at hb4p --END
  · have hb4p := hb4.h; try simp only [al_ete, al_dfn, Bool.not_eq_true', Bool.not_eq_false', al_ne, Bool.not_not, al_nn] at hb4p
    refine WO_guardT rfl rfl hb4.h ?_
    refine WO_p (PS_move_ptr rfl) ?_
    refine WO_guardT rfl rfl hb4.h ?_
    refine WO_p (PS_nilCheck rfl) ?_
    refine WO_guardT rfl rfl hb4.h ?_
    refine WO_p (PS_fieldAddr 2407 Hvad.runUnderlying69 rfl Hvad.sizeOf26 rfl rfl) ?_
    refine WO_guardT rfl rfl hb4.h ?_
    refine WO_load (.int _ _) Hvad.isAgg26 rfl (Hb.h (by repeat (first | assumption | exact Hb.newY _ _ | refine Hb.alloc ?_ | refine Hb.drew ?_ | refine Hb.ext (by assumption) ?_ | exact Hb.setSameL (by first | omega | (simp only [size_alloc, size_setB, size_drew]; omega)) | exact Hb.setSame (by assumption) | refine Hb.set (by first | omega | (simp only [size_alloc, size_setB, size_drew]; omega)) ?_ ))) (Ce.h (by first | assumption | exact ⟨rfl⟩)) ?_
    refine WO_guardT rfl rfl hb4.h ?_
    refine WO_p (PS_gtr rfl rfl) ?_
    refine WO_p (PS_pickF rfl hb4.h rfl) ?_
    refine WO_nil ?_
    refine thn_normal ?_
    refine W_if rfl (fun hb6 => ?_) (fun hb6 => ?_)
    · have hb6p := hb6.h; try simp only [al_ete, al_dfn, Bool.not_eq_true', Bool.not_eq_false', al_ne, Bool.not_not, al_nn] at hb6p
      (exfalso; omega) --END
    · have hb6p := hb6.h; try simp only [al_ete, al_dfn, Bool.not_eq_true', Bool.not_eq_false', al_ne, Bool.not_not, al_nn] at hb6p
      refine W_skip ?_
      refine thn_normal ?_
      refine W_seqJ (fun ρ w' => Fr [(0, .pointer (some ⟨C, 0, none⟩))] ρ ∧ Ext w w') ?_ ?_
      · skip
        refine W_seq ?_
        refine W_region rfl ?_
        refine WO_p (PS_move_ptr rfl) ?_
        refine WO_p (PS_nilCheck rfl) ?_
        refine WO_p (PS_fieldAddr 2404 Hvad.runUnderlying69 rfl Hvad.sizeOf5 rfl rfl) ?_
        refine WO_load (.int _ _) Hvad.isAgg5 rfl (Hb.h (by repeat (first | assumption | exact Hb.newY _ _ | refine Hb.alloc ?_ | refine Hb.drew ?_ | refine Hb.ext (by assumption) ?_ | exact Hb.setSameL (by first | omega | (simp only [size_alloc, size_setB, size_drew]; omega)) | exact Hb.setSame (by assumption) | refine Hb.set (by first | omega | (simp only [size_alloc, size_setB, size_drew]; omega)) ?_ ))) (Ce.h (by first | assumption | exact ⟨rfl⟩)) ?_
        refine WO_p (PS_neq rfl rfl) ?_
        refine WO_nil ?_
        refine thn_normal ?_
        refine W_if rfl (fun hb8 => ?_) (fun hb8 => ?_)
        · have hb8p := hb8.h; try simp only [al_ete, al_dfn, Bool.not_eq_true', Bool.not_eq_false', al_ne, Bool.not_not, al_nn] at hb8p
          have hln := hk.ln (by simpa using hb8p)
          have hheld : ofV (wv [m.limit, 0, 0, 0] * wv m.price % 115792089237316195423570985008687907853269984665640564039457584007913129639936) = m.held := by rw [hwlv, ← hln.2.2.1, Int.emod_eq_of_lt hhb.1 (by omega)]; exact ofV_wv hhd
          refine W_seqJ (fun ρ w' => ∃ b5, Fr [(0, .pointer (some ⟨C, 0, none⟩)), (5, .pointer (some ⟨b5, 0, none⟩)), (6, .bool false)] ρ ∧ Ext w w' ∧ Hb w' b5 (.cells (ic .u64 m.held) 59 (0, 0))) ?_ ?_
          · skip
            refine W_drawF [false, false, false, false, false, false, false, false, false, false, false, false, false, true, false, false] [13] [0, 1, 2, 3, 4, 5, 6, 7, 8, 9, 10, 11, 12, 14, 15] hmix (by kernel_rfl) rfl rfl rfl ?_
            refine F_q (i := 0) rfl (by kernel_rfl) ?_
            refine WH_p (PS_move_ptr rfl) rfl ?_
            refine WH_nil ?_
            refine F_q (i := 1) rfl (by kernel_rfl) ?_
            refine WH_p (PS_nilCheck rfl) rfl ?_
            refine WH_nil ?_
            refine F_q (i := 2) rfl (by kernel_rfl) ?_
            refine WH_p (PS_fieldAddr 2407 Hvad.runUnderlying69 rfl Hvad.sizeOf26 rfl rfl) rfl ?_
            refine WH_nil ?_
            refine F_q (i := 3) rfl (by kernel_rfl) ?_
            refine WH_load (.int _ _) Hvad.isAgg26 rfl (Hb.h (by repeat (first | assumption | exact Hb.newY _ _ | refine Hb.alloc ?_ | refine Hb.drew ?_ | refine Hb.ext (by assumption) ?_ | exact Hb.setSameL (by first | omega | (simp only [size_alloc, size_setB, size_drew]; omega)) | exact Hb.setSame (by assumption) | refine Hb.set (by first | omega | (simp only [size_alloc, size_setB, size_drew]; omega)) ?_ ))) (Ce.h (by first | assumption | exact ⟨rfl⟩)) ?_
            refine WH_nil ?_
            refine F_q (i := 4) rfl (by kernel_rfl) ?_
            refine WH_p (PS_buildI (k := .u64) (zs := [0, 0, 0, 0]) (ps := [(0, _)]) (L := [_, 0, 0, 0]) Hvad.zeroValue59 Hvad.runUnderlying59 Hvad.sizeOf26 rfl rfl rfl rfl) rfl ?_
            refine WH_nil ?_
            refine F_q (i := 5) rfl (by kernel_rfl) ?_
            refine WH_p (PS_move_ptr rfl) rfl ?_
            refine WH_nil ?_
            refine F_q (i := 6) rfl (by kernel_rfl) ?_
            refine WH_p (PS_nilCheck rfl) rfl ?_
            refine WH_nil ?_
            refine F_q (i := 7) rfl (by kernel_rfl) ?_
            refine WH_p (PS_fieldAddr 2400 Hvad.runUnderlying69 rfl Hvad.sizeOf59 rfl rfl) rfl ?_
            refine WH_nil ?_
            refine F_q (i := 8) rfl (by kernel_rfl) ?_
            refine WH_loadA _ Hvad.isAgg59 Hvad.sizeOf59 rfl (Hb.h (by repeat (first | assumption | exact Hb.newY _ _ | refine Hb.alloc ?_ | refine Hb.drew ?_ | refine Hb.ext (by assumption) ?_ | exact Hb.setSameL (by first | omega | (simp only [size_alloc, size_setB, size_drew]; omega)) | exact Hb.setSame (by assumption) | refine Hb.set (by first | omega | (simp only [size_alloc, size_setB, size_drew]; omega)) ?_ ))) (by first | omega | assumption | rfl | decide | exact Nat.le_refl _ | (simp only [size_ic, Value.cells]; omega) | simp) (Xt.h (by first | assumption | exact Xt.whole rfl rfl | exact Xt.whole rfl (by simp only [size_ic, Value.cells]; omega) | exact ⟨rfl⟩)) ?_
            refine WH_nil ?_
            refine F_fork1 (i := 9) rfl rfl ?_ ?_
            · refine WH_call Hvad.call64 (by rfl) (Ret.mono (mulOver_spec _ _ _ hwl hpt2) ?_)
              rintro _ w64_8 ⟨rfl, hE64_8⟩
              refine ⟨(fun h => by cases h), ?_⟩
              have hz64_8 := hE64_8.1
              try simp only [size_alloc, size_setB, size_drew] at hz64_8
              refine WH_nil ?_
              refine F_q (i := 10) rfl (by kernel_rfl) ?_
              refine WH_p (PS_move_tuple rfl) rfl ?_
              refine WH_nil ?_
              refine F_q (i := 11) rfl (by kernel_rfl) ?_
              refine WH_p (PS_extract_agg rfl rfl) rfl ?_
              refine WH_nil ?_
              refine F_q (i := 12) rfl (by kernel_rfl) ?_
              refine WH_p (PS_extract_bool rfl rfl) rfl ?_
              refine WH_nil ?_
              refine F_fork1B (i := 14) (by kernel_rfl) rfl ?_
              · refine WH_allocG Hvad.zeroValue59 ?_
                intro b5 v5 hg5 hE5 hH5 hl5
                try simp only [size_alloc, size_setB, size_drew] at hg5
                have hzz5 := hE5.1
                try simp only [size_alloc, size_setB, size_drew] at hzz5
                replace hH5 : Hb v5 b5 (.cells (ic .u64 [0, 0, 0, 0]) 59 (0, 0)) := hH5
                refine ⟨fun _ => (by repeat (first | assumption | exact Ext.refl _ | refine Ext.alloc ?_ _ | refine Ext.drew ?_ | refine Ext.setB ?_ (by first | omega | (simp only [size_alloc, size_setB, size_drew]; omega)) _ | exact Ext.trans (by assumption) (by assumption) | refine Ext.trans ?_ (by assumption))), ?_⟩
                refine WH_nil ?_
                refine F_q (i := 14) rfl (by kernel_rfl) ?_
                first | refine WH_storeW Hvad.sizeOf59 rfl (v := .agg _) rfl (Hb.h (by repeat (first | assumption | exact Hb.newY _ _ | refine Hb.alloc ?_ | refine Hb.drew ?_ | refine Hb.ext (by assumption) ?_ | exact Hb.setSameL (by first | omega | (simp only [size_alloc, size_setB, size_drew]; omega)) | exact Hb.setSame (by assumption) | refine Hb.set (by first | omega | (simp only [size_alloc, size_setB, size_drew]; omega)) ?_ ))) rfl (by first | omega | assumption | rfl | decide | exact Nat.le_refl _ | (simp only [size_ic, Value.cells]; omega) | simp) (by first | omega | assumption | rfl | decide | exact Nat.le_refl _ | (simp only [size_ic, Value.cells]; omega) | simp) (by first | exact oneCell_ic | assumption) (fun h => by cases h) ?_ | refine WH_store Hvad.sizeOf59 rfl (v := .agg _) rfl (Hb.h (by repeat (first | assumption | exact Hb.newY _ _ | refine Hb.alloc ?_ | refine Hb.drew ?_ | refine Hb.ext (by assumption) ?_ | exact Hb.setSameL (by first | omega | (simp only [size_alloc, size_setB, size_drew]; omega)) | exact Hb.setSame (by assumption) | refine Hb.set (by first | omega | (simp only [size_alloc, size_setB, size_drew]; omega)) ?_ ))) (by first | omega | assumption | rfl | decide | exact Nat.le_refl _ | (simp only [size_ic, Value.cells]; omega) | simp) (by first | omega | assumption | rfl | decide | exact Nat.le_refl _ | (simp only [size_ic, Value.cells]; omega) | simp) (by first | exact oneCell_ic | assumption) (fun h => by cases h) ?_
                refine WH_nil ?_
                refine F_q (i := 15) rfl (by kernel_rfl) ?_
                refine WH_p (PS_assign_bool rfl) rfl ?_
                refine WH_nil ?_
                refine F_end ?_
                refine thn_normal ?_
                exact ⟨b5, ⟨rfl, rfl, congrArg Value.bool (by rw [hwlv, ← hln.2.2.1]; simp; omega), trivial⟩, (by repeat (first | assumption | exact Ext.refl _ | refine Ext.alloc ?_ _ | refine Ext.drew ?_ | refine Ext.setB ?_ (by first | omega | (simp only [size_alloc, size_setB, size_drew]; omega)) _ | exact Ext.trans (by assumption) (by assumption) | refine Ext.trans ?_ (by assumption))), by rw [← hheld]; exact Hb.mk (Hb.h (by repeat (first | assumption | exact Hb.newY _ _ | refine Hb.alloc ?_ | refine Hb.drew ?_ | refine Hb.ext (by assumption) ?_ | exact Hb.setSameL (by first | omega | (simp only [size_alloc, size_setB, size_drew]; omega)) | exact Hb.setSame (by assumption) | refine Hb.set (by first | omega | (simp only [size_alloc, size_setB, size_drew]; omega)) ?_ )))⟩
            · refine WH_allocG Hvad.zeroValue59 ?_
              intro b5 v5 hg5 hE5 hH5 hl5
              try simp only [size_alloc, size_setB, size_drew] at hg5
              have hzz5 := hE5.1
              try simp only [size_alloc, size_setB, size_drew] at hzz5
              replace hH5 : Hb v5 b5 (.cells (ic .u64 [0, 0, 0, 0]) 59 (0, 0)) := hH5
              refine ⟨fun _ => (by repeat (first | assumption | exact Ext.refl _ | refine Ext.alloc ?_ _ | refine Ext.drew ?_ | refine Ext.setB ?_ (by first | omega | (simp only [size_alloc, size_setB, size_drew]; omega)) _ | exact Ext.trans (by assumption) (by assumption) | refine Ext.trans ?_ (by assumption))), ?_⟩
              refine WH_nil ?_
              refine F_q (i := 9) rfl (by kernel_rfl) ?_
              refine WH_call Hvad.call64 (by rfl) (Ret.mono (mulOver_spec _ _ _ hwl hpt2) ?_)
              rintro _ w64_10 ⟨rfl, hE64_10⟩
              refine ⟨(fun h => by cases h), ?_⟩
              have hz64_10 := hE64_10.1
              try simp only [size_alloc, size_setB, size_drew] at hz64_10
              refine WH_nil ?_
              refine F_q (i := 10) rfl (by kernel_rfl) ?_
              refine WH_p (PS_move_tuple rfl) rfl ?_
              refine WH_nil ?_
              refine F_q (i := 11) rfl (by kernel_rfl) ?_
              refine WH_p (PS_extract_agg rfl rfl) rfl ?_
              refine WH_nil ?_
              refine F_q (i := 12) rfl (by kernel_rfl) ?_
              refine WH_p (PS_extract_bool rfl rfl) rfl ?_
              refine WH_nil ?_
              refine F_q (i := 14) rfl (by kernel_rfl) ?_
              first | refine WH_storeW Hvad.sizeOf59 rfl (v := .agg _) rfl (Hb.h (by repeat (first | assumption | exact Hb.newY _ _ | refine Hb.alloc ?_ | refine Hb.drew ?_ | refine Hb.ext (by assumption) ?_ | exact Hb.setSameL (by first | omega | (simp only [size_alloc, size_setB, size_drew]; omega)) | exact Hb.setSame (by assumption) | refine Hb.set (by first | omega | (simp only [size_alloc, size_setB, size_drew]; omega)) ?_ ))) rfl (by first | omega | assumption | rfl | decide | exact Nat.le_refl _ | (simp only [size_ic, Value.cells]; omega) | simp) (by first | omega | assumption | rfl | decide | exact Nat.le_refl _ | (simp only [size_ic, Value.cells]; omega) | simp) (by first | exact oneCell_ic | assumption) (fun h => by cases h) ?_ | refine WH_store Hvad.sizeOf59 rfl (v := .agg _) rfl (Hb.h (by repeat (first | assumption | exact Hb.newY _ _ | refine Hb.alloc ?_ | refine Hb.drew ?_ | refine Hb.ext (by assumption) ?_ | exact Hb.setSameL (by first | omega | (simp only [size_alloc, size_setB, size_drew]; omega)) | exact Hb.setSame (by assumption) | refine Hb.set (by first | omega | (simp only [size_alloc, size_setB, size_drew]; omega)) ?_ ))) (by first | omega | assumption | rfl | decide | exact Nat.le_refl _ | (simp only [size_ic, Value.cells]; omega) | simp) (by first | omega | assumption | rfl | decide | exact Nat.le_refl _ | (simp only [size_ic, Value.cells]; omega) | simp) (by first | exact oneCell_ic | assumption) (fun h => by cases h) ?_
              refine WH_nil ?_
              refine F_q (i := 15) rfl (by kernel_rfl) ?_
              refine WH_p (PS_assign_bool rfl) rfl ?_
              refine WH_nil ?_
              refine F_end ?_
              refine thn_normal ?_
              exact ⟨b5, ⟨rfl, rfl, congrArg Value.bool (by rw [hwlv, ← hln.2.2.1]; simp; omega), trivial⟩, (by repeat (first | assumption | exact Ext.refl _ | refine Ext.alloc ?_ _ | refine Ext.drew ?_ | refine Ext.setB ?_ (by first | omega | (simp only [size_alloc, size_setB, size_drew]; omega)) _ | exact Ext.trans (by assumption) (by assumption) | refine Ext.trans ?_ (by assumption))), by rw [← hheld]; exact Hb.mk (Hb.h (by repeat (first | assumption | exact Hb.newY _ _ | refine Hb.alloc ?_ | refine Hb.drew ?_ | refine Hb.ext (by assumption) ?_ | exact Hb.setSameL (by first | omega | (simp only [size_alloc, size_setB, size_drew]; omega)) | exact Hb.setSame (by assumption) | refine Hb.set (by first | omega | (simp only [size_alloc, size_setB, size_drew]; omega)) ?_ )))⟩
          · rintro ρ w6 ⟨b5, hFr6, hE6, hb56⟩
            refine W_env _ hFr6 ?_
            have hz6 := hE6.1
            refine W_seq ?_
            refine W_drawE [false, false, false, false, false, false, false, false, false, false, false, false, false, false, false, false, false, false, false, false, false, false, false, false, false, false, false, false, false, false, false, false, false, false, false, false, false, false, true, false, false] hmix (by kernel_rfl) rfl ?_
            refine WH_p (PS_move_ptr rfl) rfl ?_
            refine WH_p (PS_nilCheck rfl) rfl ?_
            refine WH_p (PS_fieldAddr 2407 Hvad.runUnderlying69 rfl Hvad.sizeOf26 rfl rfl) rfl ?_
            refine WH_load (.int _ _) Hvad.isAgg26 rfl (Hb.h (by repeat (first | assumption | exact Hb.newY _ _ | refine Hb.alloc ?_ | refine Hb.drew ?_ | refine Hb.ext (by assumption) ?_ | exact Hb.setSameL (by first | omega | (simp only [size_alloc, size_setB, size_drew]; omega)) | exact Hb.setSame (by assumption) | refine Hb.set (by first | omega | (simp only [size_alloc, size_setB, size_drew]; omega)) ?_ ))) (Ce.h (by first | assumption | exact ⟨rfl⟩)) ?_
            refine WH_p (PS_lss rfl rfl) rfl ?_
            refine WH_p (PS_move_bool rfl) rfl ?_
            refine WH_if (t := 49) rfl (fun hb14 => ?_) (fun hb14 => ?_)
            · have hb14p := hb14.h; try simp only [al_ete, al_dfn, Bool.not_eq_true', Bool.not_eq_false', al_ne, Bool.not_not, al_nn] at hb14p
              (exfalso; omega) --END
            · have hb14p := hb14.h; try simp only [al_ete, al_dfn, Bool.not_eq_true', Bool.not_eq_false', al_ne, Bool.not_not, al_nn] at hb14p
              refine WH_guardT rfl rfl hb14.h ?_
              refine WH_p (PS_move_ptr rfl) rfl ?_
              refine WH_guardT rfl rfl hb14.h ?_
              refine WH_p (PS_nilCheck rfl) rfl ?_
              refine WH_guardT rfl rfl hb14.h ?_
              refine WH_p (PS_fieldAddr 2408 Hvad.runUnderlying69 rfl Hvad.sizeOf26 rfl rfl) rfl ?_
              refine WH_guardT rfl rfl hb14.h ?_
              refine WH_load (.int _ _) Hvad.isAgg26 rfl (Hb.h (by repeat (first | assumption | exact Hb.newY _ _ | refine Hb.alloc ?_ | refine Hb.drew ?_ | refine Hb.ext (by assumption) ?_ | exact Hb.setSameL (by first | omega | (simp only [size_alloc, size_setB, size_drew]; omega)) | exact Hb.setSame (by assumption) | refine Hb.set (by first | omega | (simp only [size_alloc, size_setB, size_drew]; omega)) ?_ ))) (Ce.h (by first | assumption | exact ⟨rfl⟩)) ?_
              refine WH_guardT rfl rfl hb14.h ?_
              refine WH_p (PS_move_ptr rfl) rfl ?_
              refine WH_guardT rfl rfl hb14.h ?_
              refine WH_p (PS_nilCheck rfl) rfl ?_
              refine WH_guardT rfl rfl hb14.h ?_
              refine WH_p (PS_fieldAddr 2407 Hvad.runUnderlying69 rfl Hvad.sizeOf26 rfl rfl) rfl ?_
              refine WH_guardT rfl rfl hb14.h ?_
              refine WH_load (.int _ _) Hvad.isAgg26 rfl (Hb.h (by repeat (first | assumption | exact Hb.newY _ _ | refine Hb.alloc ?_ | refine Hb.drew ?_ | refine Hb.ext (by assumption) ?_ | exact Hb.setSameL (by first | omega | (simp only [size_alloc, size_setB, size_drew]; omega)) | exact Hb.setSame (by assumption) | refine Hb.set (by first | omega | (simp only [size_alloc, size_setB, size_drew]; omega)) ?_ ))) (Ce.h (by first | assumption | exact ⟨rfl⟩)) ?_
              refine WH_guardT rfl rfl hb14.h ?_
              refine WH_p (PS_sub_u64n rfl rfl (by omega) (by omega)) rfl ?_
              refine WH_guardT rfl rfl hb14.h ?_
              refine WH_p (PS_gtr rfl rfl) rfl ?_
              refine WH_p (PS_pickF rfl hb14.h rfl) rfl ?_
              refine WH_p (PS_move_bool rfl) rfl ?_
              refine WH_if (t := 61) rfl (fun hb16 => ?_) (fun hb16 => ?_)
              · have hb16p := hb16.h; try simp only [al_ete, al_dfn, Bool.not_eq_true', Bool.not_eq_false', al_ne, Bool.not_not, al_nn] at hb16p
                (exfalso; omega) --END
              · have hb16p := hb16.h; try simp only [al_ete, al_dfn, Bool.not_eq_true', Bool.not_eq_false', al_ne, Bool.not_not, al_nn] at hb16p
                refine WH_guardT rfl rfl hb16.h ?_
                refine WH_p (PS_move_bool rfl) rfl ?_
                refine WH_p (PS_pickF rfl hb16.h rfl) rfl ?_
                refine WH_p (PS_move_bool rfl) rfl ?_
                refine WH_if (t := 64) rfl (fun hb18 => ?_) (fun hb18 => ?_)
                · have hb18p := hb18.h; try simp only [al_ete, al_dfn, Bool.not_eq_true', Bool.not_eq_false', al_ne, Bool.not_not, al_nn] at hb18p
                  simp at hb18p --END
                · have hb18p := hb18.h; try simp only [al_ete, al_dfn, Bool.not_eq_true', Bool.not_eq_false', al_ne, Bool.not_not, al_nn] at hb18p
                  refine WH_guardT rfl rfl hb18.h ?_
                  refine WH_loadA _ Hvad.isAgg59 Hvad.sizeOf59 rfl (Hb.h (by repeat (first | assumption | exact Hb.newY _ _ | refine Hb.alloc ?_ | refine Hb.drew ?_ | refine Hb.ext (by assumption) ?_ | exact Hb.setSameL (by first | omega | (simp only [size_alloc, size_setB, size_drew]; omega)) | exact Hb.setSame (by assumption) | refine Hb.set (by first | omega | (simp only [size_alloc, size_setB, size_drew]; omega)) ?_ ))) (by first | omega | assumption | rfl | decide | exact Nat.le_refl _ | (simp only [size_ic, Value.cells]; omega) | simp) (Xt.h (by first | assumption | exact Xt.whole rfl rfl | exact Xt.whole rfl (by simp only [size_ic, Value.cells]; omega) | exact ⟨rfl⟩)) ?_
                  refine WH_guardT rfl rfl hb18.h ?_
                  refine WH_p (PS_move_ptr rfl) rfl ?_
                  refine WH_guardT rfl rfl hb18.h ?_
                  refine WH_p (PS_nilCheck rfl) rfl ?_
                  refine WH_guardT rfl rfl hb18.h ?_
                  refine WH_p (PS_fieldAddr 2409 Hvad.runUnderlying69 rfl Hvad.sizeOf59 rfl rfl) rfl ?_
                  refine WH_guardT rfl rfl hb18.h ?_
                  refine WH_loadA _ Hvad.isAgg59 Hvad.sizeOf59 rfl (Hb.h (by repeat (first | assumption | exact Hb.newY _ _ | refine Hb.alloc ?_ | refine Hb.drew ?_ | refine Hb.ext (by assumption) ?_ | exact Hb.setSameL (by first | omega | (simp only [size_alloc, size_setB, size_drew]; omega)) | exact Hb.setSame (by assumption) | refine Hb.set (by first | omega | (simp only [size_alloc, size_setB, size_drew]; omega)) ?_ ))) (by first | omega | assumption | rfl | decide | exact Nat.le_refl _ | (simp only [size_ic, Value.cells]; omega) | simp) (Xt.h (by first | assumption | exact Xt.whole rfl rfl | exact Xt.whole rfl (by simp only [size_ic, Value.cells]; omega) | exact ⟨rfl⟩)) ?_
                  refine WH_guardT rfl rfl hb18.h ?_
                  refine WH_p (PS_neqA Hvad.underlying59 Hvad.underlying26 Hvad.sizeOf26 Hvad.eqGuardType59 rfl rfl (by first | omega | assumption | rfl | decide | exact Nat.le_refl _ | (simp only [size_ic, Value.cells]; omega) | simp) (by first | omega | assumption | rfl | decide | exact Nat.le_refl _ | (simp only [size_ic, Value.cells]; omega) | simp)) rfl ?_
                  refine WH_p (PS_pickF rfl hb18.h rfl) rfl ?_
                  refine WH_p (PS_move_bool rfl) rfl ?_
                  refine WH_if (t := 72) rfl (fun hb20 => ?_) (fun hb20 => ?_)
                  · have hb20p := hb20.h; try simp only [al_ete, al_dfn, Bool.not_eq_true', Bool.not_eq_false', al_ne, Bool.not_not, al_nn] at hb20p
                    (exfalso; simp at hb20p) --END
                  · have hb20p := hb20.h; try simp only [al_ete, al_dfn, Bool.not_eq_true', Bool.not_eq_false', al_ne, Bool.not_not, al_nn] at hb20p
                    refine WH_guardT rfl rfl hb20.h ?_
                    refine WH_p (PS_move_ptr rfl) rfl ?_
                    refine WH_guardT rfl rfl hb20.h ?_
                    refine WH_p (PS_nilCheck rfl) rfl ?_
                    refine WH_guardT rfl rfl hb20.h ?_
                    refine WH_p (PS_fieldAddr 2400 Hvad.runUnderlying69 rfl Hvad.sizeOf59 rfl rfl) rfl ?_
                    refine WH_guardT rfl rfl hb20.h ?_
                    refine WH_loadA _ Hvad.isAgg59 Hvad.sizeOf59 rfl (Hb.h (by repeat (first | assumption | exact Hb.newY _ _ | refine Hb.alloc ?_ | refine Hb.drew ?_ | refine Hb.ext (by assumption) ?_ | exact Hb.setSameL (by first | omega | (simp only [size_alloc, size_setB, size_drew]; omega)) | exact Hb.setSame (by assumption) | refine Hb.set (by first | omega | (simp only [size_alloc, size_setB, size_drew]; omega)) ?_ ))) (by first | omega | assumption | rfl | decide | exact Nat.le_refl _ | (simp only [size_ic, Value.cells]; omega) | simp) (Xt.h (by first | assumption | exact Xt.whole rfl rfl | exact Xt.whole rfl (by simp only [size_ic, Value.cells]; omega) | exact ⟨rfl⟩)) ?_
                    refine WH_guardT rfl rfl hb20.h ?_
                    refine WH_p (PS_move_ptr rfl) rfl ?_
                    refine WH_guardT rfl rfl hb20.h ?_
                    refine WH_p (PS_nilCheck rfl) rfl ?_
                    refine WH_guardT rfl rfl hb20.h ?_
                    refine WH_p (PS_fieldAddr 2260 Hvad.runUnderlying69 rfl Hvad.sizeOf31 rfl rfl) rfl ?_
                    refine WH_guardT rfl rfl hb20.h ?_
                    refine WH_p (PS_fieldAddr 87 Hvad.runUnderlying31 rfl Hvad.sizeOf28 rfl rfl) rfl ?_
                    refine WH_guardT rfl rfl hb20.h ?_
                    refine WH_loadA _ Hvad.isAgg28 Hvad.sizeOf28 rfl (Hb.h (by repeat (first | assumption | exact Hb.newY _ _ | refine Hb.alloc ?_ | refine Hb.drew ?_ | refine Hb.ext (by assumption) ?_ | exact Hb.setSameL (by first | omega | (simp only [size_alloc, size_setB, size_drew]; omega)) | exact Hb.setSame (by assumption) | refine Hb.set (by first | omega | (simp only [size_alloc, size_setB, size_drew]; omega)) ?_ ))) (by first | omega | assumption | rfl | decide | exact Nat.le_refl _ | (simp only [size_ic, Value.cells]; omega) | simp) (Xt.h (by first | assumption | exact Xt.whole rfl rfl | exact Xt.whole rfl (by simp only [size_ic, Value.cells]; omega) | exact ⟨rfl⟩)) ?_
                    refine WH_guardT rfl rfl hb20.h ?_
                    refine WH_call Hvad.call39 (by rfl) (Ret.mono (fromBytes_spec _ _ hbft) ?_)
                    rintro _ w39_20 ⟨rfl, hE39_20⟩
                    refine ⟨fun _ => (by repeat (first | assumption | exact Ext.refl _ | refine Ext.alloc ?_ _ | refine Ext.drew ?_ | refine Ext.setB ?_ (by first | omega | (simp only [size_alloc, size_setB, size_drew]; omega)) _ | exact Ext.trans (by assumption) (by assumption) | refine Ext.trans ?_ (by assumption))), ?_⟩
                    have hz39_20 := hE39_20.1
                    try simp only [size_alloc, size_setB, size_drew] at hz39_20
                    refine WH_guardT rfl rfl hb20.h ?_
                    refine WH_call Hvad.call66 (by rfl) (Ret.mono (lt_spec _ _ _ hpt2 hfw) ?_)
                    rintro _ w66_21 ⟨rfl, hE66_21⟩
                    refine ⟨(fun h => by cases h), ?_⟩
                    have hz66_21 := hE66_21.1
                    try simp only [size_alloc, size_setB, size_drew] at hz66_21
                    refine WH_p (PS_pickF rfl hb20.h rfl) rfl ?_
                    refine WH_nil ?_
                    refine thn_normal ?_
                    refine W_if rfl (fun hb23 => ?_) (fun hb23 => ?_)
                    · have hb23p := hb23.h; try simp only [al_ete, al_dfn, Bool.not_eq_true', Bool.not_eq_false', al_ne, Bool.not_not, al_nn] at hb23p
                      (exfalso; first | omega | simp_all) --END
                    · have hb23p := hb23.h; try simp only [al_ete, al_dfn, Bool.not_eq_true', Bool.not_eq_false', al_ne, Bool.not_not, al_nn] at hb23p
                      refine W_skip ?_
                      refine thn_normal ?_
                      exact ⟨⟨rfl, trivial⟩, (by repeat (first | assumption | exact Ext.refl _ | refine Ext.alloc ?_ _ | refine Ext.drew ?_ | refine Ext.setB ?_ (by first | omega | (simp only [size_alloc, size_setB, size_drew]; omega)) _ | exact Ext.trans (by assumption) (by assumption) | refine Ext.trans ?_ (by assumption)))⟩
        · have hb8p := hb8.h; try simp only [al_ete, al_dfn, Bool.not_eq_true', Bool.not_eq_false', al_ne, Bool.not_not, al_nn] at hb8p
          refine W_skip ?_
          refine thn_normal ?_
          exact ⟨⟨rfl, trivial⟩, (by repeat (first | assumption | exact Ext.refl _ | refine Ext.alloc ?_ _ | refine Ext.drew ?_ | refine Ext.setB ?_ (by first | omega | (simp only [size_alloc, size_setB, size_drew]; omega)) _ | exact Ext.trans (by assumption) (by assumption) | refine Ext.trans ?_ (by assumption)))⟩
      · rintro ρ w8 ⟨hFr8, hE8⟩
        refine W_env _ hFr8 ?_
        have hz8 := hE8.1
        refine W_seq ?_
        refine W_region rfl ?_
        refine WO_p (PS_assign_int rfl) ?_
        refine WO_nil ?_
        refine thn_normal ?_
        refine W_seq ?_
        refine W_seq ?_
        refine W_region rfl ?_
        refine WO_p (PS_move_ptr rfl) ?_
        refine WO_p (PS_nilCheck rfl) ?_
        refine WO_p (PS_fieldAddr 2258 Hvad.runUnderlying69 rfl Hvad.sizeOf67 rfl rfl) ?_
        refine WO_load (.int _ _) Hvad.isAgg67 rfl (Hb.h (by repeat (first | assumption | exact Hb.newY _ _ | refine Hb.alloc ?_ | refine Hb.drew ?_ | refine Hb.ext (by assumption) ?_ | exact Hb.setSameL (by first | omega | (simp only [size_alloc, size_setB, size_drew]; omega)) | exact Hb.setSame (by assumption) | refine Hb.set (by first | omega | (simp only [size_alloc, size_setB, size_drew]; omega)) ?_ ))) (Ce.h (by first | assumption | exact ⟨rfl⟩)) ?_
        refine WO_p (PS_conv_i64n Hvad.runUnderlying67 Hvad.runUnderlying3 rfl (by omega) (by omega)) ?_
        refine WO_p (PS_assign_int rfl) ?_
        refine WO_nil ?_
        refine thn_normal ?_
        refine W_block ?_
        refine W_loopN (fun k ρ w' => k ≤ n ∧ Fr [(0, .pointer (some ⟨C, 0, none⟩)), (7, .int .u64 (costTo m.frames m.base n - costTo m.frames m.base k)), (8, .int .i64 ((k : Int) - 1))] ρ ∧ Ext w w') n ?_ ?_
        · exact ⟨Nat.le_refl _, ⟨rfl, congrArg (Value.int .u64) (by omega), rfl, trivial⟩, (by repeat (first | assumption | exact Ext.refl _ | refine Ext.alloc ?_ _ | refine Ext.drew ?_ | refine Ext.setB ?_ (by first | omega | (simp only [size_alloc, size_setB, size_drew]; omega)) _ | refine Ext.trans ?_ (by assumption)))⟩
        intro k ρ w2 hI
        obtain ⟨hkn, hFr2, hE2⟩ := hI
        refine W_env _ hFr2 ?_
        have hz2 := hE2.1
        have hck := hk.cost hM.ty k (n - k) (by omega)
        refine W_seq ?_
        refine W_seq ?_
        refine W_region rfl ?_
        refine WO_p (PS_move_int rfl) ?_
        refine WO_p (PS_geq rfl rfl) ?_
        refine WO_nil ?_
        refine thn_normal ?_
        refine W_if rfl (fun hb25 => ?_) (fun hb25 => ?_)
        · have hb25p := hb25.h; try simp only [al_ete, al_dfn, Bool.not_eq_true', Bool.not_eq_false', al_ne, Bool.not_not, al_nn] at hb25p
          obtain ⟨i, rfl⟩ : ∃ i, k = i + 1 := ⟨k - 1, by omega⟩
          rw [show ((i + 1 : Nat) : Int) - 1 = i by omega]
          obtain ⟨fi, hfi⟩ := frames_lt hM.ty (i := i) (by omega)
          obtain ⟨_, hftyi, hFi⟩ := hM.openF hfi
          have hf_gas := hFi.gas
          have hfgi := hftyi.gas
          have hszb := hk.bs i (by omega)
          have hmcn := memCost_nonneg (n := (szOf m.base i + 31) / 32) (by omega)
          have hcki := hk.cost hM.ty i (n - i) (by omega)
          simp only [costTo] at hck ⊢
          rw [gasOf_some hfi] at hck ⊢
          refine W_skip ?_
          refine thn_normal ?_
          refine W_seq ?_
          refine W_block ?_
          refine W_seq ?_
          refine W_region rfl ?_
          refine WO_p (PS_move_ptr rfl) ?_
          refine WO_p (PS_move_int rfl) ?_
          refine WO_call Hvad.call228 (by rfl) (Ret.mono (bytesOf_spec C c v B m i n S _ (MS.ext hM (by repeat (first | assumption | exact Ext.refl _ | refine Ext.alloc ?_ _ | refine Ext.drew ?_ | refine Ext.setB ?_ (by first | omega | (simp only [size_alloc, size_setB, size_drew]; omega)) _ | exact Ext.trans (by assumption) (by assumption) | refine Ext.trans ?_ (by assumption)))) hk (by omega)) ?_)
          rintro _ w228_25 ⟨rfl, hE228_25⟩
          have hz228_25 := hE228_25.1
          try simp only [size_alloc, size_setB, size_drew] at hz228_25
          refine WO_p (PS_move_tuple rfl) ?_
          refine WO_p (PS_extract_int rfl rfl) ?_
          refine WO_p (PS_extract_bool rfl rfl) ?_
          refine WO_p (PS_assign_int rfl) ?_
          refine WO_p (PS_assign_bool rfl) ?_
          refine WO_nil ?_
          refine thn_normal ?_
          refine W_seq ?_
          refine W_seq ?_
          refine W_region rfl ?_
          refine WO_p (PS_move_bool rfl) ?_
          refine WO_p (PS_not rfl) ?_
          refine WO_p (PS_move_bool rfl) ?_
          refine WO_if (t := 102) rfl (fun hb29 => ?_) (fun hb29 => ?_)
          · have hb29p := hb29.h; try simp only [al_ete, al_dfn, Bool.not_eq_true', Bool.not_eq_false', al_ne, Bool.not_not, al_nn] at hb29p
            simp at hb29p --END
          · have hb29p := hb29.h; try simp only [al_ete, al_dfn, Bool.not_eq_true', Bool.not_eq_false', al_ne, Bool.not_not, al_nn] at hb29p
            refine WO_guardT rfl rfl hb29.h ?_
            refine WO_p (PS_move_ptr rfl) ?_
            refine WO_guardT rfl rfl hb29.h ?_
            refine WO_p (PS_move_int rfl) ?_
            refine WO_guardT rfl rfl hb29.h ?_
            refine WO_p (PS_nilCheck rfl) ?_
            refine WO_guardT rfl rfl hb29.h ?_
            refine WO_p (PS_fieldAddr 1803 Hvad.runUnderlying69 rfl Hvad.sizeOf66 rfl rfl) ?_
            refine WO_guardT rfl rfl hb29.h ?_
            refine WO_p (PS_indexA Hvad.runUnderlying66 Hvad.sizeOf65 rfl rfl (by omega) (by omega)) ?_
            rw [show ((i : Int)).toNat = i by omega]
            refine WO_guardT rfl rfl hb29.h ?_
            refine WO_p (PS_fieldAddr 7 Hvad.runUnderlying65 rfl Hvad.sizeOf26 rfl rfl) ?_
            refine WO_guardT rfl rfl hb29.h ?_
            refine WO_load (.int _ _) Hvad.isAgg26 rfl (Hb.h (by repeat (first | assumption | exact Hb.newY _ _ | refine Hb.alloc ?_ | refine Hb.drew ?_ | refine Hb.ext (by assumption) ?_ | exact Hb.setSameL (by first | omega | (simp only [size_alloc, size_setB, size_drew]; omega)) | exact Hb.setSame (by assumption) | refine Hb.set (by first | omega | (simp only [size_alloc, size_setB, size_drew]; omega)) ?_ ))) (Ce.h (by first | assumption | exact ⟨rfl⟩)) ?_
            refine WO_guardT rfl rfl hb29.h ?_
            refine WO_p (PS_move_int rfl) ?_
            refine WO_guardT rfl rfl hb29.h ?_
            refine WO_p (PS_sub_u64n rfl rfl (by omega) (by omega)) ?_
            refine WO_guardT rfl rfl hb29.h ?_
            refine WO_p (PS_gtr rfl rfl) ?_
            refine WO_p (PS_pickF rfl hb29.h rfl) ?_
            refine WO_nil ?_
            refine thn_normal ?_
            refine W_if rfl (fun hb31 => ?_) (fun hb31 => ?_)
            · have hb31p := hb31.h; try simp only [al_ete, al_dfn, Bool.not_eq_true', Bool.not_eq_false', al_ne, Bool.not_not, al_nn] at hb31p
              (exfalso; omega) --END
            · have hb31p := hb31.h; try simp only [al_ete, al_dfn, Bool.not_eq_true', Bool.not_eq_false', al_ne, Bool.not_not, al_nn] at hb31p
              refine W_skip ?_
              refine thn_normal ?_
              refine W_seq ?_
              refine W_region rfl ?_
              refine WO_p (PS_move_int rfl) ?_
              refine WO_p (PS_move_ptr rfl) ?_
              refine WO_p (PS_move_int rfl) ?_
              refine WO_p (PS_nilCheck rfl) ?_
              refine WO_p (PS_fieldAddr 1803 Hvad.runUnderlying69 rfl Hvad.sizeOf66 rfl rfl) ?_
              refine WO_p (PS_indexA Hvad.runUnderlying66 Hvad.sizeOf65 rfl rfl (by omega) (by omega)) ?_
              rw [show ((i : Int)).toNat = i by omega]
              refine WO_p (PS_fieldAddr 7 Hvad.runUnderlying65 rfl Hvad.sizeOf26 rfl rfl) ?_
              refine WO_load (.int _ _) Hvad.isAgg26 rfl (Hb.h (by repeat (first | assumption | exact Hb.newY _ _ | refine Hb.alloc ?_ | refine Hb.drew ?_ | refine Hb.ext (by assumption) ?_ | exact Hb.setSameL (by first | omega | (simp only [size_alloc, size_setB, size_drew]; omega)) | exact Hb.setSame (by assumption) | refine Hb.set (by first | omega | (simp only [size_alloc, size_setB, size_drew]; omega)) ?_ ))) (Ce.h (by first | assumption | exact ⟨rfl⟩)) ?_
              refine WO_p (PS_add_u64n rfl rfl (by omega) (by omega)) ?_
              refine WO_p (PS_assign_int rfl) ?_
              refine WO_nil ?_
              refine thn_normal ?_
              refine W_seq ?_
              refine W_region rfl ?_
              refine WO_p (PS_move_int rfl) ?_
              refine WO_p (PS_conv_u64n Hvad.runUnderlying54 Hvad.runUnderlying26 rfl (by omega) (by omega)) ?_
              refine WO_call Hvad.call70 (by rfl) (Ret.mono (words_spec _ _ ⟨by omega, by omega⟩) ?_)
              rintro _ _ ⟨rfl, rfl⟩
              refine WO_call Hvad.call166 (by rfl) (Ret.mono (memCost_spec _ _ (by omega) (by omega)) ?_)
              rintro _ w166_32 ⟨hE166_32, rfl⟩
              have hz166_32 := hE166_32.1
              try simp only [size_alloc, size_setB, size_drew] at hz166_32
              refine WO_p (PS_assign_int rfl) ?_
              refine WO_nil ?_
              refine thn_normal ?_
              refine W_seq ?_
              refine W_seq ?_
              refine W_region rfl ?_
              refine WO_p (PS_move_int rfl) ?_
              refine WO_p (PS_move_int rfl) ?_
              refine WO_p (PS_sub_u64n rfl rfl (by omega) (by omega)) ?_
              refine WO_p (PS_gtr rfl rfl) ?_
              refine WO_nil ?_
              refine thn_normal ?_
              refine W_if rfl (fun hb35 => ?_) (fun hb35 => ?_)
              · have hb35p := hb35.h; try simp only [al_ete, al_dfn, Bool.not_eq_true', Bool.not_eq_false', al_ne, Bool.not_not, al_nn] at hb35p
                (exfalso; omega) --END
              · have hb35p := hb35.h; try simp only [al_ete, al_dfn, Bool.not_eq_true', Bool.not_eq_false', al_ne, Bool.not_not, al_nn] at hb35p
                refine W_skip ?_
                refine thn_normal ?_
                refine W_region rfl ?_
                refine WO_p (PS_move_int rfl) ?_
                refine WO_p (PS_move_int rfl) ?_
                refine WO_p (PS_add_u64n rfl rfl (by omega) (by omega)) ?_
                refine WO_p (PS_assign_int rfl) ?_
                refine WO_nil ?_
                refine inBlk_normal ?_
                refine thn_normal ?_
                refine W_region rfl ?_
                refine WO_p (PS_move_int rfl) ?_
                refine WO_p (PS_sub_i64n rfl rfl (by omega) (by omega)) ?_
                refine WO_p (PS_assign_int rfl) ?_
                refine WO_nil ?_
                refine thn_normal ?_
                exact ⟨i, by omega, by omega, ⟨rfl, congrArg (Value.int .u64) (by omega), congrArg (Value.int .i64) (by omega), trivial⟩, (by repeat (first | assumption | exact Ext.refl _ | refine Ext.alloc ?_ _ | refine Ext.drew ?_ | refine Ext.setB ?_ (by first | omega | (simp only [size_alloc, size_setB, size_drew]; omega)) _ | exact Ext.trans (by assumption) (by assumption) | refine Ext.trans ?_ (by assumption)))⟩
        · have hb25p := hb25.h; try simp only [al_ete, al_dfn, Bool.not_eq_true', Bool.not_eq_false', al_ne, Bool.not_not, al_nn] at hb25p
          refine W_exit ?_
          refine thn_exit ?_
          refine thn_exit ?_
          refine inBlk_exit ?_
          refine thn_normal ?_
          refine W_seq ?_
          refine W_region rfl ?_
          refine WO_p (PS_assign_bool rfl) ?_
          refine WO_nil ?_
          refine thn_normal ?_
          refine W_ret ?_
          refine bodyQ_ret1 Hvad.results140 rfl (.bool _) rfl ?_
          exact ⟨rfl, (by repeat (first | assumption | exact Ext.refl _ | refine Ext.alloc ?_ _ | refine Ext.drew ?_ | refine Ext.setB ?_ (by first | omega | (simp only [size_alloc, size_setB, size_drew]; omega)) _ | refine Ext.trans ?_ (by assumption)))⟩

set_option maxRecDepth 10000 in
set_option maxHeartbeats 4000000 in
theorem roomOK_spec (C : Nat) (c : Array Value) (v : V) (B : VB) (m : Mc) (n : Nat) (S : Int) (w : World) (hM : MS w C c v B m) (hk : Ck v m n S) : Ret Hvad.prog 141 #[.pointer (some ⟨C, 0, none⟩)] w fun u w' => u = .bool true ∧ Ext w w' := by
  have hblk := hM.vs.blk
  have hCl := hblk.lt
  have hcs := hM.sz
  have hc_s := hM.rep.s
  have hc_top := hM.rep.top
  rw [hk.top] at hc_top
  have hc_phase := hM.rep.phase
  have hn7 := hk.n7
  have hph := hk.ph
  have hpt := hM.ty.phase
  have hc_journal : Ce c (2435 + 8194) (.slice (slp B.j) v.journal.length (slc B.j)) := hM.vs.rep.journal
  have hc_logs : Ce c (2435 + 24581) (.slice (slp B.l) v.logs.length (slc B.l)) := hM.vs.rep.logs
  have hc_temps : Ce c (2435 + 24582) (.slice (slp B.t) v.temps.length (slc B.t)) := hM.vs.rep.temps
  have hc_accts : Ce c (2435 + 0) (.slice (slp B.a) v.accts.length (slc B.a)) := hM.vs.rep.accts
  have hc_slots : Ce c (2435 + 1) (.slice (slp B.s) v.slots.length (slc B.s)) := hM.vs.rep.slots
  have hc_nm : Ce c (2435 + 24579) (.int .i32 v.nmarks) := hM.vs.rep.nmarks
  have hc_app := hM.rep.applied
  have hc_a0 := hM.rep.a0
  have hc_s0 := hM.rep.s0
  have hnm := hk.vi.nm
  have hla := hk.vi.la
  have hls := hk.vi.ls
  have hlj := hk.vi.lj
  have hlt := hk.vi.lt
  have hll : v.logs.length ≤ v.journal.length := by rw [← hk.vi.lg]; exact List.countP_le_length
  have hgs := hk.gs
  have hg0 := hk.g0
  have htx := hk.tx
  have hlm := hk.lm
  have hapt := hM.ty.applied
  have ha0t := hM.ty.a0
  have hs0t := hM.ty.s0
  have hap := hk.ap
  have hapn := hk.apn
  unfold I32 at ha0t hs0t
  obtain ⟨sp, hsp⟩ : ∃ sp, m.txgas - gOf m n = sp := ⟨_, rfl⟩
  have hr : (v.journal.length : Int) ≤ 91 + sp / 25 ∧ (v.logs.length : Int) ≤ sp / 375 ∧ v.nmarks ≤ 2 + sp / 100 ∧ (v.temps.length : Int) ≤ sp / 100 ∧ (m.phase = 0 → (v.accts.length : Int) ≤ 8 ∧ (v.slots.length : Int) ≤ 128) ∧ (m.phase ≠ 0 → m.a0 ≤ 8 ∧ m.s0 ≤ 128 ∧ (v.accts.length : Int) ≤ m.a0 + 21 + sp / 2600 ∧ (v.slots.length : Int) ≤ m.s0 + 64 + sp / 2100) := by
    by_cases h0 : m.phase = 0
    · have hi := hk.id0 h0
      have e1 : v.journal.length = 0 := by rw [hi.jl]; rfl
      have e2 : v.logs.length = 0 := by rw [hi.lg]; rfl
      have e3 : v.temps.length = 0 := by rw [hi.tp]; rfl
      have e4 := hi.nm
      have e5 := hi.la
      have e6 := hi.ls
      exact ⟨by omega, by omega, by omega, by omega, fun _ => ⟨by omega, by omega⟩, fun h => absurd h0 h⟩
    · obtain ⟨hw, ha, hs, _⟩ := hk.rw_ h0
      rw [hsp] at hw
      exact ⟨hw.j, hw.l, hw.n, hw.t, fun h => absurd h h0, fun _ => ⟨ha, hs, hw.a, hw.sl⟩⟩
  have hsp0 : 0 ≤ sp ∧ sp ≤ 1048576 := by omega
  obtain ⟨hr1, hr2, hr3, hr4, hr5, hr6⟩ := hr
  refine Ret_of_W Hvad.func141 rfl rfl ?_
  refine W_seq ?_
  refine W_region rfl ?_
  refine WO_p (PS_assign_bool rfl) ?_
  refine WO_nil ?_
  refine thn_normal ?_
  refine W_seq ?_
  refine W_region rfl ?_
  refine WO_p (PS_move_ptr rfl) ?_
  refine WO_call Hvad.call230 (by rfl) (Ret.mono (spent_spec C c v B m n S _ (MS.ext hM (by repeat (first | assumption | exact Ext.refl _ | refine Ext.alloc ?_ _ | refine Ext.drew ?_ | refine Ext.setB ?_ (by first | omega | (simp only [size_alloc, size_setB, size_drew]; omega)) _ | exact Ext.trans (by assumption) (by assumption) | refine Ext.trans ?_ (by assumption)))) hk) ?_)
  rintro _ w230_0 ⟨rfl, hE230_0⟩
  have hz230_0 := hE230_0.1
  try simp only [size_alloc, size_setB, size_drew] at hz230_0
  rw [hsp]
  refine WO_p (PS_move_tuple rfl) ?_
  refine WO_p (PS_extract_int rfl rfl) ?_
  refine WO_p (PS_extract_bool rfl rfl) ?_
  refine WO_p (PS_assign_int rfl) ?_
  refine WO_p (PS_assign_bool rfl) ?_
  refine WO_nil ?_
  refine thn_normal ?_
  refine W_seq ?_
  refine W_seq ?_
  refine W_region rfl ?_
  refine WO_p (PS_move_bool rfl) ?_
  refine WO_p (PS_not rfl) ?_
  refine WO_nil ?_
  refine thn_normal ?_
  refine W_if rfl (fun hb4 => ?_) (fun hb4 => ?_)
  · have hb4p := hb4.h; try simp only [al_ete, al_dfn, Bool.not_eq_true', Bool.not_eq_false', al_ne, Bool.not_not, al_nn] at hb4p
    simp at hb4p --END
  · have hb4p := hb4.h; try simp only [al_ete, al_dfn, Bool.not_eq_true', Bool.not_eq_false', al_ne, Bool.not_not, al_nn] at hb4p
    refine W_skip ?_
    refine thn_normal ?_
    refine W_seq ?_
    refine W_seq ?_
    refine W_region rfl ?_
    refine WO_p (PS_move_ptr rfl) ?_
    refine WO_p (PS_nilCheck rfl) ?_
    refine WO_p (PS_fieldAddr 0 Hvad.runUnderlying69 rfl Hvad.sizeOf53 rfl rfl) ?_
    refine WO_load (.pointer _) Hvad.isAgg53 rfl (Hb.h (by repeat (first | assumption | exact Hb.newY _ _ | refine Hb.alloc ?_ | refine Hb.drew ?_ | refine Hb.ext (by assumption) ?_ | exact Hb.setSameL (by first | omega | (simp only [size_alloc, size_setB, size_drew]; omega)) | exact Hb.setSame (by assumption) | refine Hb.set (by first | omega | (simp only [size_alloc, size_setB, size_drew]; omega)) ?_ ))) (Ce.h (by first | assumption | exact ⟨rfl⟩)) ?_
    refine WO_p (PS_nilCheck rfl) ?_
    refine WO_p (PS_fieldAddr 8194 Hvad.runUnderlying79 rfl Hvad.sizeOf73 rfl rfl) ?_
    refine WO_load (.slice _ _ _) Hvad.isAgg73 rfl (Hb.h (by repeat (first | assumption | exact Hb.newY _ _ | refine Hb.alloc ?_ | refine Hb.drew ?_ | refine Hb.ext (by assumption) ?_ | exact Hb.setSameL (by first | omega | (simp only [size_alloc, size_setB, size_drew]; omega)) | exact Hb.setSame (by assumption) | refine Hb.set (by first | omega | (simp only [size_alloc, size_setB, size_drew]; omega)) ?_ ))) (Ce.h (by first | assumption | exact ⟨rfl⟩)) ?_
    refine WO_p (PS_lenS Hvad.runUnderlying73 rfl) ?_
    refine WO_p (PS_conv_u64n Hvad.runUnderlying3 Hvad.runUnderlying26 rfl (by omega) (by omega)) ?_
    refine WO_p (PS_move_int rfl) ?_
    refine WO_p (PS_quo_u64 rfl rfl (by omega) (by omega) (by omega)) ?_
    refine WO_p (PS_add_u64n rfl rfl (by omega) (by omega)) ?_
    refine WO_p (PS_gtr rfl rfl) ?_
    refine WO_p (PS_move_bool rfl) ?_
    refine WO_if (t := 30) rfl (fun hb6 => ?_) (fun hb6 => ?_)
    · have hb6p := hb6.h; try simp only [al_ete, al_dfn, Bool.not_eq_true', Bool.not_eq_false', al_ne, Bool.not_not, al_nn] at hb6p
      (exfalso; omega) --END
    · have hb6p := hb6.h; try simp only [al_ete, al_dfn, Bool.not_eq_true', Bool.not_eq_false', al_ne, Bool.not_not, al_nn] at hb6p
      refine WO_guardT rfl rfl hb6.h ?_
      refine WO_p (PS_move_ptr rfl) ?_
      refine WO_guardT rfl rfl hb6.h ?_
      refine WO_p (PS_nilCheck rfl) ?_
      refine WO_guardT rfl rfl hb6.h ?_
      refine WO_p (PS_fieldAddr 0 Hvad.runUnderlying69 rfl Hvad.sizeOf53 rfl rfl) ?_
      refine WO_guardT rfl rfl hb6.h ?_
      refine WO_load (.pointer _) Hvad.isAgg53 rfl (Hb.h (by repeat (first | assumption | exact Hb.newY _ _ | refine Hb.alloc ?_ | refine Hb.drew ?_ | refine Hb.ext (by assumption) ?_ | exact Hb.setSameL (by first | omega | (simp only [size_alloc, size_setB, size_drew]; omega)) | exact Hb.setSame (by assumption) | refine Hb.set (by first | omega | (simp only [size_alloc, size_setB, size_drew]; omega)) ?_ ))) (Ce.h (by first | assumption | exact ⟨rfl⟩)) ?_
      refine WO_guardT rfl rfl hb6.h ?_
      refine WO_p (PS_nilCheck rfl) ?_
      refine WO_guardT rfl rfl hb6.h ?_
      refine WO_p (PS_fieldAddr 24581 Hvad.runUnderlying79 rfl Hvad.sizeOf75 rfl rfl) ?_
      refine WO_guardT rfl rfl hb6.h ?_
      refine WO_load (.slice _ _ _) Hvad.isAgg75 rfl (Hb.h (by repeat (first | assumption | exact Hb.newY _ _ | refine Hb.alloc ?_ | refine Hb.drew ?_ | refine Hb.ext (by assumption) ?_ | exact Hb.setSameL (by first | omega | (simp only [size_alloc, size_setB, size_drew]; omega)) | exact Hb.setSame (by assumption) | refine Hb.set (by first | omega | (simp only [size_alloc, size_setB, size_drew]; omega)) ?_ ))) (Ce.h (by first | assumption | exact ⟨rfl⟩)) ?_
      refine WO_guardT rfl rfl hb6.h ?_
      refine WO_p (PS_lenS Hvad.runUnderlying75 rfl) ?_
      refine WO_guardT rfl rfl hb6.h ?_
      refine WO_p (PS_conv_u64n Hvad.runUnderlying3 Hvad.runUnderlying26 rfl (by omega) (by omega)) ?_
      refine WO_guardT rfl rfl hb6.h ?_
      refine WO_p (PS_move_int rfl) ?_
      refine WO_guardT rfl rfl hb6.h ?_
      refine WO_p (PS_quo_u64 rfl rfl (by omega) (by omega) (by omega)) ?_
      refine WO_guardT rfl rfl hb6.h ?_
      refine WO_p (PS_gtr rfl rfl) ?_
      refine WO_p (PS_pickF rfl hb6.h rfl) ?_
      refine WO_p (PS_move_bool rfl) ?_
      refine WO_if (t := 44) rfl (fun hb8 => ?_) (fun hb8 => ?_)
      · have hb8p := hb8.h; try simp only [al_ete, al_dfn, Bool.not_eq_true', Bool.not_eq_false', al_ne, Bool.not_not, al_nn] at hb8p
        (exfalso; omega) --END
      · have hb8p := hb8.h; try simp only [al_ete, al_dfn, Bool.not_eq_true', Bool.not_eq_false', al_ne, Bool.not_not, al_nn] at hb8p
        refine WO_guardT rfl rfl hb8.h ?_
        refine WO_p (PS_move_ptr rfl) ?_
        refine WO_guardT rfl rfl hb8.h ?_
        refine WO_p (PS_nilCheck rfl) ?_
        refine WO_guardT rfl rfl hb8.h ?_
        refine WO_p (PS_fieldAddr 0 Hvad.runUnderlying69 rfl Hvad.sizeOf53 rfl rfl) ?_
        refine WO_guardT rfl rfl hb8.h ?_
        refine WO_load (.pointer _) Hvad.isAgg53 rfl (Hb.h (by repeat (first | assumption | exact Hb.newY _ _ | refine Hb.alloc ?_ | refine Hb.drew ?_ | refine Hb.ext (by assumption) ?_ | exact Hb.setSameL (by first | omega | (simp only [size_alloc, size_setB, size_drew]; omega)) | exact Hb.setSame (by assumption) | refine Hb.set (by first | omega | (simp only [size_alloc, size_setB, size_drew]; omega)) ?_ ))) (Ce.h (by first | assumption | exact ⟨rfl⟩)) ?_
        refine WO_guardT rfl rfl hb8.h ?_
        refine WO_p (PS_nilCheck rfl) ?_
        refine WO_guardT rfl rfl hb8.h ?_
        refine WO_p (PS_fieldAddr 24579 Hvad.runUnderlying79 rfl Hvad.sizeOf21 rfl rfl) ?_
        refine WO_guardT rfl rfl hb8.h ?_
        refine WO_load (.int _ _) Hvad.isAgg21 rfl (Hb.h (by repeat (first | assumption | exact Hb.newY _ _ | refine Hb.alloc ?_ | refine Hb.drew ?_ | refine Hb.ext (by assumption) ?_ | exact Hb.setSameL (by first | omega | (simp only [size_alloc, size_setB, size_drew]; omega)) | exact Hb.setSame (by assumption) | refine Hb.set (by first | omega | (simp only [size_alloc, size_setB, size_drew]; omega)) ?_ ))) (Ce.h (by first | assumption | exact ⟨rfl⟩)) ?_
        refine WO_guardT rfl rfl hb8.h ?_
        refine WO_p (PS_conv_i64n Hvad.runUnderlying21 Hvad.runUnderlying2 rfl (by omega) (by omega)) ?_
        refine WO_guardT rfl rfl hb8.h ?_
        refine WO_p (PS_move_int rfl) ?_
        refine WO_guardT rfl rfl hb8.h ?_
        refine WO_p (PS_quo_u64 rfl rfl (by omega) (by omega) (by omega)) ?_
        refine WO_guardT rfl rfl hb8.h ?_
        refine WO_p (PS_add_u64n rfl rfl (by omega) (by omega)) ?_
        refine WO_guardT rfl rfl hb8.h ?_
        refine WO_p (PS_conv_i64n Hvad.runUnderlying26 Hvad.runUnderlying2 rfl (by omega) (by omega)) ?_
        refine WO_guardT rfl rfl hb8.h ?_
        refine WO_p (PS_gtr rfl rfl) ?_
        refine WO_p (PS_pickF rfl hb8.h rfl) ?_
        refine WO_p (PS_move_bool rfl) ?_
        refine WO_if (t := 59) rfl (fun hb10 => ?_) (fun hb10 => ?_)
        · have hb10p := hb10.h; try simp only [al_ete, al_dfn, Bool.not_eq_true', Bool.not_eq_false', al_ne, Bool.not_not, al_nn] at hb10p
          (exfalso; omega) --END
        · have hb10p := hb10.h; try simp only [al_ete, al_dfn, Bool.not_eq_true', Bool.not_eq_false', al_ne, Bool.not_not, al_nn] at hb10p
          refine WO_guardT rfl rfl hb10.h ?_
          refine WO_p (PS_move_ptr rfl) ?_
          refine WO_guardT rfl rfl hb10.h ?_
          refine WO_p (PS_nilCheck rfl) ?_
          refine WO_guardT rfl rfl hb10.h ?_
          refine WO_p (PS_fieldAddr 0 Hvad.runUnderlying69 rfl Hvad.sizeOf53 rfl rfl) ?_
          refine WO_guardT rfl rfl hb10.h ?_
          refine WO_load (.pointer _) Hvad.isAgg53 rfl (Hb.h (by repeat (first | assumption | exact Hb.newY _ _ | refine Hb.alloc ?_ | refine Hb.drew ?_ | refine Hb.ext (by assumption) ?_ | exact Hb.setSameL (by first | omega | (simp only [size_alloc, size_setB, size_drew]; omega)) | exact Hb.setSame (by assumption) | refine Hb.set (by first | omega | (simp only [size_alloc, size_setB, size_drew]; omega)) ?_ ))) (Ce.h (by first | assumption | exact ⟨rfl⟩)) ?_
          refine WO_guardT rfl rfl hb10.h ?_
          refine WO_p (PS_nilCheck rfl) ?_
          refine WO_guardT rfl rfl hb10.h ?_
          refine WO_p (PS_fieldAddr 24582 Hvad.runUnderlying79 rfl Hvad.sizeOf76 rfl rfl) ?_
          refine WO_guardT rfl rfl hb10.h ?_
          refine WO_load (.slice _ _ _) Hvad.isAgg76 rfl (Hb.h (by repeat (first | assumption | exact Hb.newY _ _ | refine Hb.alloc ?_ | refine Hb.drew ?_ | refine Hb.ext (by assumption) ?_ | exact Hb.setSameL (by first | omega | (simp only [size_alloc, size_setB, size_drew]; omega)) | exact Hb.setSame (by assumption) | refine Hb.set (by first | omega | (simp only [size_alloc, size_setB, size_drew]; omega)) ?_ ))) (Ce.h (by first | assumption | exact ⟨rfl⟩)) ?_
          refine WO_guardT rfl rfl hb10.h ?_
          refine WO_p (PS_lenS Hvad.runUnderlying76 rfl) ?_
          refine WO_guardT rfl rfl hb10.h ?_
          refine WO_p (PS_conv_u64n Hvad.runUnderlying3 Hvad.runUnderlying26 rfl (by omega) (by omega)) ?_
          refine WO_guardT rfl rfl hb10.h ?_
          refine WO_p (PS_move_int rfl) ?_
          refine WO_guardT rfl rfl hb10.h ?_
          refine WO_p (PS_quo_u64 rfl rfl (by omega) (by omega) (by omega)) ?_
          refine WO_guardT rfl rfl hb10.h ?_
          refine WO_p (PS_gtr rfl rfl) ?_
          refine WO_p (PS_pickF rfl hb10.h rfl) ?_
          refine WO_nil ?_
          refine thn_normal ?_
          refine W_if rfl (fun hb12 => ?_) (fun hb12 => ?_)
          · have hb12p := hb12.h; try simp only [al_ete, al_dfn, Bool.not_eq_true', Bool.not_eq_false', al_ne, Bool.not_not, al_nn] at hb12p
            (exfalso; omega) --END
          · have hb12p := hb12.h; try simp only [al_ete, al_dfn, Bool.not_eq_true', Bool.not_eq_false', al_ne, Bool.not_not, al_nn] at hb12p
            refine W_skip ?_
            refine thn_normal ?_
            refine W_seq ?_
            refine W_region rfl ?_
            refine WO_p (PS_move_ptr rfl) ?_
            refine WO_p (PS_nilCheck rfl) ?_
            refine WO_p (PS_fieldAddr 0 Hvad.runUnderlying69 rfl Hvad.sizeOf53 rfl rfl) ?_
            refine WO_load (.pointer _) Hvad.isAgg53 rfl (Hb.h (by repeat (first | assumption | exact Hb.newY _ _ | refine Hb.alloc ?_ | refine Hb.drew ?_ | refine Hb.ext (by assumption) ?_ | exact Hb.setSameL (by first | omega | (simp only [size_alloc, size_setB, size_drew]; omega)) | exact Hb.setSame (by assumption) | refine Hb.set (by first | omega | (simp only [size_alloc, size_setB, size_drew]; omega)) ?_ ))) (Ce.h (by first | assumption | exact ⟨rfl⟩)) ?_
            refine WO_p (PS_nilCheck rfl) ?_
            refine WO_p (PS_fieldAddr 0 Hvad.runUnderlying79 rfl Hvad.sizeOf70 rfl rfl) ?_
            refine WO_load (.slice _ _ _) Hvad.isAgg70 rfl (Hb.h (by repeat (first | assumption | exact Hb.newY _ _ | refine Hb.alloc ?_ | refine Hb.drew ?_ | refine Hb.ext (by assumption) ?_ | exact Hb.setSameL (by first | omega | (simp only [size_alloc, size_setB, size_drew]; omega)) | exact Hb.setSame (by assumption) | refine Hb.set (by first | omega | (simp only [size_alloc, size_setB, size_drew]; omega)) ?_ ))) (Ce.h (by first | assumption | exact ⟨rfl⟩)) ?_
            refine WO_p (PS_lenS Hvad.runUnderlying70 rfl) ?_
            refine WO_p (PS_assign_int rfl) ?_
            refine WO_nil ?_
            refine thn_normal ?_
            refine W_seq ?_
            refine W_region rfl ?_
            refine WO_p (PS_move_ptr rfl) ?_
            refine WO_p (PS_nilCheck rfl) ?_
            refine WO_p (PS_fieldAddr 0 Hvad.runUnderlying69 rfl Hvad.sizeOf53 rfl rfl) ?_
            refine WO_load (.pointer _) Hvad.isAgg53 rfl (Hb.h (by repeat (first | assumption | exact Hb.newY _ _ | refine Hb.alloc ?_ | refine Hb.drew ?_ | refine Hb.ext (by assumption) ?_ | exact Hb.setSameL (by first | omega | (simp only [size_alloc, size_setB, size_drew]; omega)) | exact Hb.setSame (by assumption) | refine Hb.set (by first | omega | (simp only [size_alloc, size_setB, size_drew]; omega)) ?_ ))) (Ce.h (by first | assumption | exact ⟨rfl⟩)) ?_
            refine WO_p (PS_nilCheck rfl) ?_
            refine WO_p (PS_fieldAddr 1 Hvad.runUnderlying79 rfl Hvad.sizeOf71 rfl rfl) ?_
            refine WO_load (.slice _ _ _) Hvad.isAgg71 rfl (Hb.h (by repeat (first | assumption | exact Hb.newY _ _ | refine Hb.alloc ?_ | refine Hb.drew ?_ | refine Hb.ext (by assumption) ?_ | exact Hb.setSameL (by first | omega | (simp only [size_alloc, size_setB, size_drew]; omega)) | exact Hb.setSame (by assumption) | refine Hb.set (by first | omega | (simp only [size_alloc, size_setB, size_drew]; omega)) ?_ ))) (Ce.h (by first | assumption | exact ⟨rfl⟩)) ?_
            refine WO_p (PS_lenS Hvad.runUnderlying71 rfl) ?_
            refine WO_p (PS_assign_int rfl) ?_
            refine WO_nil ?_
            refine thn_normal ?_
            refine W_seq ?_
            refine W_region rfl ?_
            refine WO_p (PS_move_ptr rfl) ?_
            refine WO_p (PS_nilCheck rfl) ?_
            refine WO_p (PS_fieldAddr 2406 Hvad.runUnderlying69 rfl Hvad.sizeOf5 rfl rfl) ?_
            refine WO_load (.int _ _) Hvad.isAgg5 rfl (Hb.h (by repeat (first | assumption | exact Hb.newY _ _ | refine Hb.alloc ?_ | refine Hb.drew ?_ | refine Hb.ext (by assumption) ?_ | exact Hb.setSameL (by first | omega | (simp only [size_alloc, size_setB, size_drew]; omega)) | exact Hb.setSame (by assumption) | refine Hb.set (by first | omega | (simp only [size_alloc, size_setB, size_drew]; omega)) ?_ ))) (Ce.h (by first | assumption | exact ⟨rfl⟩)) ?_
            refine WO_p (PS_conv_i64n Hvad.runUnderlying5 Hvad.runUnderlying2 rfl (by omega) (by omega)) ?_
            refine WO_p (PS_assign_int rfl) ?_
            refine WO_nil ?_
            refine thn_normal ?_
            refine W_seq ?_
            refine W_seq ?_
            refine W_region rfl ?_
            refine WO_p (PS_move_ptr rfl) ?_
            refine WO_p (PS_nilCheck rfl) ?_
            refine WO_p (PS_fieldAddr 2404 Hvad.runUnderlying69 rfl Hvad.sizeOf5 rfl rfl) ?_
            refine WO_load (.int _ _) Hvad.isAgg5 rfl (Hb.h (by repeat (first | assumption | exact Hb.newY _ _ | refine Hb.alloc ?_ | refine Hb.drew ?_ | refine Hb.ext (by assumption) ?_ | exact Hb.setSameL (by first | omega | (simp only [size_alloc, size_setB, size_drew]; omega)) | exact Hb.setSame (by assumption) | refine Hb.set (by first | omega | (simp only [size_alloc, size_setB, size_drew]; omega)) ?_ ))) (Ce.h (by first | assumption | exact ⟨rfl⟩)) ?_
            refine WO_p (PS_eql rfl rfl) ?_
            refine WO_nil ?_
            refine thn_normal ?_
            refine W_if rfl (fun hb14 => ?_) (fun hb14 => ?_)
            · have hb14p := hb14.h; try simp only [al_ete, al_dfn, Bool.not_eq_true', Bool.not_eq_false', al_ne, Bool.not_not, al_nn] at hb14p
              have hr7 := hr5 (by simpa using hb14p)
              refine W_seq ?_
              refine W_region rfl ?_
              refine WO_p (PS_move_int rfl) ?_
              refine WO_p (PS_move_int rfl) ?_
              refine WO_p (PS_mul_i64n rfl rfl (by omega) (by omega)) ?_
              refine WO_p (PS_add_i64n rfl rfl (by omega) (by omega)) ?_
              refine WO_p (PS_leq rfl rfl) ?_
              refine WO_p (PS_move_bool rfl) ?_
              refine WO_if (t := 104) rfl (fun hb16 => ?_) (fun hb16 => ?_)
              · have hb16p := hb16.h; try simp only [al_ete, al_dfn, Bool.not_eq_true', Bool.not_eq_false', al_ne, Bool.not_not, al_nn] at hb16p
                refine WO_guardT rfl rfl hb16.h ?_
                refine WO_p (PS_move_int rfl) ?_
                refine WO_guardT rfl rfl hb16.h ?_
                refine WO_p (PS_move_int rfl) ?_
                refine WO_guardT rfl rfl hb16.h ?_
                refine WO_p (PS_mul_i64n rfl rfl (by omega) (by omega)) ?_
                refine WO_guardT rfl rfl hb16.h ?_
                refine WO_p (PS_add_i64n rfl rfl (by omega) (by omega)) ?_
                refine WO_guardT rfl rfl hb16.h ?_
                refine WO_p (PS_leq rfl rfl) ?_
                refine WO_p (PS_pickT rfl hb16.h rfl) ?_
                refine WO_p (PS_assign_bool rfl) ?_
                refine WO_nil ?_
                refine thn_normal ?_
                refine W_ret ?_
                refine thn_ret ?_
                refine bodyQ_ret1 Hvad.results141 rfl (.bool _) rfl ?_
                exact ⟨congrArg Value.bool (by simp <;> omega), (by repeat (first | assumption | exact Ext.refl _ | refine Ext.alloc ?_ _ | refine Ext.drew ?_ | refine Ext.setB ?_ (by first | omega | (simp only [size_alloc, size_setB, size_drew]; omega)) _ | exact Ext.trans (by assumption) (by assumption) | refine Ext.trans ?_ (by assumption)))⟩
              · have hb16p := hb16.h; try simp only [al_ete, al_dfn, Bool.not_eq_true', Bool.not_eq_false', al_ne, Bool.not_not, al_nn] at hb16p
                (exfalso; omega) --END
            · have hb14p := hb14.h; try simp only [al_ete, al_dfn, Bool.not_eq_true', Bool.not_eq_false', al_ne, Bool.not_not, al_nn] at hb14p
              have hr7 := hr6 (by simpa using hb14p)
              have hap1 := hapn (by simpa using hb14p)
              refine W_skip ?_
              refine thn_normal ?_
              refine W_seq ?_
              refine W_region rfl ?_
              refine WO_p (PS_move_ptr rfl) ?_
              refine WO_p (PS_nilCheck rfl) ?_
              refine WO_p (PS_fieldAddr 2413 Hvad.runUnderlying69 rfl Hvad.sizeOf21 rfl rfl) ?_
              refine WO_load (.int _ _) Hvad.isAgg21 rfl (Hb.h (by repeat (first | assumption | exact Hb.newY _ _ | refine Hb.alloc ?_ | refine Hb.drew ?_ | refine Hb.ext (by assumption) ?_ | exact Hb.setSameL (by first | omega | (simp only [size_alloc, size_setB, size_drew]; omega)) | exact Hb.setSame (by assumption) | refine Hb.set (by first | omega | (simp only [size_alloc, size_setB, size_drew]; omega)) ?_ ))) (Ce.h (by first | assumption | exact ⟨rfl⟩)) ?_
              refine WO_p (PS_conv_i64n Hvad.runUnderlying21 Hvad.runUnderlying2 rfl (by omega) (by omega)) ?_
              refine WO_p (PS_assign_int rfl) ?_
              refine WO_nil ?_
              refine thn_normal ?_
              refine W_seq ?_
              refine W_region rfl ?_
              refine WO_p (PS_move_ptr rfl) ?_
              refine WO_p (PS_nilCheck rfl) ?_
              refine WO_p (PS_fieldAddr 2414 Hvad.runUnderlying69 rfl Hvad.sizeOf21 rfl rfl) ?_
              refine WO_load (.int _ _) Hvad.isAgg21 rfl (Hb.h (by repeat (first | assumption | exact Hb.newY _ _ | refine Hb.alloc ?_ | refine Hb.drew ?_ | refine Hb.ext (by assumption) ?_ | exact Hb.setSameL (by first | omega | (simp only [size_alloc, size_setB, size_drew]; omega)) | exact Hb.setSame (by assumption) | refine Hb.set (by first | omega | (simp only [size_alloc, size_setB, size_drew]; omega)) ?_ ))) (Ce.h (by first | assumption | exact ⟨rfl⟩)) ?_
              refine WO_p (PS_conv_i64n Hvad.runUnderlying21 Hvad.runUnderlying2 rfl (by omega) (by omega)) ?_
              refine WO_p (PS_assign_int rfl) ?_
              refine WO_nil ?_
              refine thn_normal ?_
              refine W_seq ?_
              refine W_seq ?_
              refine W_region rfl ?_
              refine WO_p (PS_move_int rfl) ?_
              refine WO_p (PS_lss rfl rfl) ?_
              refine WO_p (PS_move_bool rfl) ?_
              refine WO_if (t := 123) rfl (fun hb19 => ?_) (fun hb19 => ?_)
              · have hb19p := hb19.h; try simp only [al_ete, al_dfn, Bool.not_eq_true', Bool.not_eq_false', al_ne, Bool.not_not, al_nn] at hb19p
                (exfalso; omega) --END
              · have hb19p := hb19.h; try simp only [al_ete, al_dfn, Bool.not_eq_true', Bool.not_eq_false', al_ne, Bool.not_not, al_nn] at hb19p
                refine WO_guardT rfl rfl hb19.h ?_
                refine WO_p (PS_move_int rfl) ?_
                refine WO_guardT rfl rfl hb19.h ?_
                refine WO_p (PS_move_int rfl) ?_
                refine WO_guardT rfl rfl hb19.h ?_
                refine WO_p (PS_sub_i64n rfl rfl (by omega) (by omega)) ?_
                refine WO_guardT rfl rfl hb19.h ?_
                refine WO_p (PS_mul_i64n rfl rfl (by omega) (by omega)) ?_
                refine WO_guardT rfl rfl hb19.h ?_
                refine WO_p (PS_add_i64n rfl rfl (by omega) (by omega)) ?_
                refine WO_guardT rfl rfl hb19.h ?_
                refine WO_p (PS_gtr rfl rfl) ?_
                refine WO_p (PS_pickF rfl hb19.h rfl) ?_
                refine WO_p (PS_move_bool rfl) ?_
                refine WO_if (t := 131) rfl (fun hb21 => ?_) (fun hb21 => ?_)
                · have hb21p := hb21.h; try simp only [al_ete, al_dfn, Bool.not_eq_true', Bool.not_eq_false', al_ne, Bool.not_not, al_nn] at hb21p
                  (exfalso; omega) --END
                · have hb21p := hb21.h; try simp only [al_ete, al_dfn, Bool.not_eq_true', Bool.not_eq_false', al_ne, Bool.not_not, al_nn] at hb21p
                  refine WO_guardT rfl rfl hb21.h ?_
                  refine WO_p (PS_move_int rfl) ?_
                  refine WO_guardT rfl rfl hb21.h ?_
                  refine WO_p (PS_move_int rfl) ?_
                  refine WO_guardT rfl rfl hb21.h ?_
                  refine WO_p (PS_sub_i64n rfl rfl (by omega) (by omega)) ?_
                  refine WO_guardT rfl rfl hb21.h ?_
                  refine WO_p (PS_mul_i64n rfl rfl (by omega) (by omega)) ?_
                  refine WO_guardT rfl rfl hb21.h ?_
                  refine WO_p (PS_add_i64n rfl rfl (by omega) (by omega)) ?_
                  refine WO_guardT rfl rfl hb21.h ?_
                  refine WO_p (PS_gtr rfl rfl) ?_
                  refine WO_p (PS_pickF rfl hb21.h rfl) ?_
                  refine WO_nil ?_
                  refine thn_normal ?_
                  refine W_if rfl (fun hb23 => ?_) (fun hb23 => ?_)
                  · have hb23p := hb23.h; try simp only [al_ete, al_dfn, Bool.not_eq_true', Bool.not_eq_false', al_ne, Bool.not_not, al_nn] at hb23p
                    (exfalso; omega) --END
                  · have hb23p := hb23.h; try simp only [al_ete, al_dfn, Bool.not_eq_true', Bool.not_eq_false', al_ne, Bool.not_not, al_nn] at hb23p
                    refine W_skip ?_
                    refine thn_normal ?_
                    refine W_seq ?_
                    refine W_region rfl ?_
                    refine WO_p (PS_move_int rfl) ?_
                    refine WO_p (PS_move_int rfl) ?_
                    refine WO_p (PS_add_i64n rfl rfl (by omega) (by omega)) ?_
                    refine WO_p (PS_add_i64n rfl rfl (by omega) (by omega)) ?_
                    refine WO_p (PS_move_int rfl) ?_
                    refine WO_p (PS_quo_u64 rfl rfl (by omega) (by omega) (by omega)) ?_
                    refine WO_p (PS_conv_i64n Hvad.runUnderlying26 Hvad.runUnderlying2 rfl (by omega) (by omega)) ?_
                    refine WO_p (PS_add_i64n rfl rfl (by omega) (by omega)) ?_
                    refine WO_p (PS_leq rfl rfl) ?_
                    refine WO_p (PS_move_bool rfl) ?_
                    refine WO_if (t := 148) rfl (fun hb25 => ?_) (fun hb25 => ?_)
                    · have hb25p := hb25.h; try simp only [al_ete, al_dfn, Bool.not_eq_true', Bool.not_eq_false', al_ne, Bool.not_not, al_nn] at hb25p
                      refine WO_guardT rfl rfl hb25.h ?_
                      refine WO_p (PS_move_int rfl) ?_
                      refine WO_guardT rfl rfl hb25.h ?_
                      refine WO_p (PS_move_int rfl) ?_
                      refine WO_guardT rfl rfl hb25.h ?_
                      refine WO_p (PS_add_i64n rfl rfl (by omega) (by omega)) ?_
                      refine WO_guardT rfl rfl hb25.h ?_
                      refine WO_p (PS_move_int rfl) ?_
                      refine WO_guardT rfl rfl hb25.h ?_
                      refine WO_p (PS_quo_u64 rfl rfl (by omega) (by omega) (by omega)) ?_
                      refine WO_guardT rfl rfl hb25.h ?_
                      refine WO_p (PS_conv_i64n Hvad.runUnderlying26 Hvad.runUnderlying2 rfl (by omega) (by omega)) ?_
                      refine WO_guardT rfl rfl hb25.h ?_
                      refine WO_p (PS_add_i64n rfl rfl (by omega) (by omega)) ?_
                      refine WO_guardT rfl rfl hb25.h ?_
                      refine WO_p (PS_leq rfl rfl) ?_
                      refine WO_p (PS_pickT rfl hb25.h rfl) ?_
                      refine WO_p (PS_assign_bool rfl) ?_
                      refine WO_nil ?_
                      refine thn_normal ?_
                      refine W_ret ?_
                      refine bodyQ_ret1 Hvad.results141 rfl (.bool _) rfl ?_
                      exact ⟨congrArg Value.bool (by simp <;> omega), (by repeat (first | assumption | exact Ext.refl _ | refine Ext.alloc ?_ _ | refine Ext.drew ?_ | refine Ext.setB ?_ (by first | omega | (simp only [size_alloc, size_setB, size_drew]; omega)) _ | exact Ext.trans (by assumption) (by assumption) | refine Ext.trans ?_ (by assumption)))⟩
                    · have hb25p := hb25.h; try simp only [al_ete, al_dfn, Bool.not_eq_true', Bool.not_eq_false', al_ne, Bool.not_not, al_nn] at hb25p
                      (exfalso; omega) --END

end Go.Proofs.YgvadwGreat
