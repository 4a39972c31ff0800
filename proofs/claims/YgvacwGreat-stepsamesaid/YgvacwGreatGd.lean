import Derived.Test.YgvacwGreatGc
namespace Go.Proofs.YgvacwGreat
set_option linter.unusedSimpArgs false
set_option linter.unusedVariables false
theorem take_snoc {α : Type} {l : List α} {i : Nat} {y : α} (h : l[i]? = some y) : l.take (i + 1) = l.take i ++ [y] := by
  rw [List.take_add_one, h]; rfl
theorem encYT_sz {x : YTp} (h : x.addr.length = 20) : (encYT x).toArray.size = 22 := by simpa using encYT_len h
theorem encYM_sz {x : YMk} (h : x.addr.length = 20) : (encYM x).toArray.size = 21 := by simpa using encYM_len h
theorem encYA_sz {x : YAc} (h : x.addr.length = 20) : (encYA x).toArray.size = 24 := by simpa using encYA_len h

set_option maxRecDepth 10000 in
set_option maxHeartbeats 4000000 in
theorem yClone_spec [Om] (w : World) (hO : OmB w) (S : Nat) (c : Array Value) (T : TypeId) (fz : Nat × Nat) (x : YWs) (q : PW) (N : Nat) (hS : Hb w S (.cells c T fz)) (hW : WC c x) (hR : PWN w x q) (hB : PWB N q) (hN : N ≤ 100000000) : Ret Hvac.prog 92 #[.pointer (some ⟨S, 0, none⟩)] w fun u w' => Ext w w' ∧ ∃ x', u = .agg (encWs x').toArray ∧ PWR w' x' q := by
  have hSl := hS.lt
  have hc0 := hW.accts
  have hc1 := hW.warmA
  have hc2 := hW.warmS
  have hc3 := hW.ref
  have hc4 := hW.logs
  have hc5 := hW.temps
  have hc6 := hW.made
  have hc7 := hW.gone
  have hr3 := hR.ref
  have hr4 := hR.logs.a
  have hz3 := hB.rz
  have hl4 := hB.lg
  have hrA := hR.warmA
  have hrM := hR.made
  have hrG := hR.gone
  have hlA := hrA.len
  have hlM := hrM.len
  have hlG := hrG.len
  have hbA := hB.wa
  have hbM := hB.md
  have hbG := hB.gn
  obtain ⟨LA, hPA, hRA⟩ := hR.accts
  obtain ⟨LTY, hPT, hRT⟩ := hR.temps
  obtain ⟨LM, hPM, hRM⟩ := hR.warmS
  obtain ⟨xa, hxa⟩ : ∃ xa, xa = x.accts := ⟨_, rfl⟩
  rw [← hxa] at hPA hc0
  obtain ⟨p, n, cp⟩ := xa
  have hnA := hPA.len
  dsimp only at hnA hc0
  have hRA1 := hRA.1
  have hbl := hB.al
  obtain ⟨xt5, hxt5⟩ : ∃ xt5, xt5 = x.temps := ⟨_, rfl⟩
  rw [← hxt5] at hPT hc5
  obtain ⟨pt5, ntemps, ct5⟩ := xt5
  have hnT := hPT.len
  dsimp only at hnT hc5
  have hRT1 := hRT.1
  have hbtp := hB.tp
  obtain ⟨xt6, hxt6⟩ : ∃ xt6, xt6 = x.warmS := ⟨_, rfl⟩
  rw [← hxt6] at hPM hc2
  obtain ⟨pt6, nwarmS, ct6⟩ := xt6
  have hnM := hPM.len
  dsimp only at hnM hc2
  have hRM1 := hRM.1
  have hbws := hB.ws
  refine Ret_of_W Hvac.func92 rfl rfl ?_
  refine W_seq ?_
  refine W_region rfl ?_
  refine WO_allocG Hvac.zeroValue95 ?_
  intro b2 v2 hg2 hE2 hH2 hl2
  try simp only [size_alloc, size_setB, size_drew] at hg2
  have hzz2 := hE2.1
  try simp only [size_alloc, size_setB, size_drew] at hzz2
  replace hH2 : Hb v2 b2 (.cells ((encWs ⟨(none, 0, 0), (none, 0, 0), (none, 0, 0), (none, 0, 0), (none, 0, 0), (none, 0, 0), (none, 0, 0), (none, 0, 0)⟩).toArray) 95 (0, 0)) := hH2
  refine WO_nil ?_
  refine thn_normal ?_
  refine W_seqJ (fun ρ w' => ∃ b3 y, Fr [(0, .pointer (some ⟨S, 0, none⟩)), (2, .pointer (some ⟨b2, 0, none⟩)), (3, .pointer (some ⟨b3, 0, none⟩))] ρ ∧ Ext w w' ∧ b2 ≠ b3 ∧ w.heap.size ≤ b3 ∧ w.heap.size ≤ b2 ∧ Hb w' b2 (.cells (encWs ⟨(none, 0, 0), (none, 0, 0), (none, 0, 0), (none, 0, 0), (none, 0, 0), (none, 0, 0), (none, 0, 0), (none, 0, 0)⟩).toArray 95 (0, 0)) ∧ Hb w' b3 (.cells (encWs y).toArray 95 (0, 0)) ∧ CF w' y q 0 ∧ y.accts = (none, 0, 0) ∧ y.warmS = (none, 0, 0) ∧ y.temps = (none, 0, 0)) ?_ ?_
  · skip
    refine W_drawF [false, false, false, false, true, false, false, false, false, false, false, true, false] [11] [0, 1, 2, 3, 4, 5, 6, 7, 8, 9, 10, 12] hmix (by kernel_rfl) rfl rfl rfl ?_
    refine F_q (i := 0) rfl (by kernel_rfl) ?_
    refine WH_p (PS_move_ptr rfl) rfl ?_
    refine WH_nil ?_
    refine F_q (i := 1) rfl (by kernel_rfl) ?_
    refine WH_p (PS_nilCheck rfl) rfl ?_
    refine WH_nil ?_
    refine F_q (i := 2) rfl (by kernel_rfl) ?_
    refine WH_p (PS_fieldAddr 3 Hvac.runUnderlying95 rfl Hvac.sizeOf92 rfl rfl) rfl ?_
    refine WH_nil ?_
    refine F_q (i := 3) rfl (by kernel_rfl) ?_
    refine WH_load (.slice _ _ _) Hvac.isAgg92 rfl (Hb.h (by repeat (first | assumption | exact Hb.newY _ _ | refine Hb.alloc ?_ | refine Hb.drew ?_ | refine Hb.ext (by assumption) ?_ | exact Hb.setSameL (by first | omega | (simp only [size_alloc, size_setB, size_drew]; omega)) | exact Hb.setSame (by assumption) | refine Hb.set (by first | omega | (simp only [size_alloc, size_setB, size_drew]; omega)) ?_ ))) (Ce.h (by first | assumption | exact ⟨rfl⟩)) ?_
    refine WH_nil ?_
    refine F_fork1 (i := 4) rfl rfl ?_ ?_
    · refine WH_call Hvac.call164 (by rfl) (Ret.mono (yNatOf_spec _ (OmB.ext hO (by repeat (first | assumption | exact Ext.refl _ | refine Ext.alloc ?_ _ | refine Ext.drew ?_ | refine Ext.setB ?_ (by first | omega | (simp only [size_alloc, size_setB, size_drew]; omega)) _ | exact Ext.trans (by assumption) (by assumption) | refine Ext.trans ?_ (by assumption)))) _ _ _ _ (by first | exact NN.nil _ | assumption | exact NN.ext (by assumption) (by repeat (first | assumption | exact Ext.refl _ | refine Ext.alloc ?_ _ | refine Ext.drew ?_ | refine Ext.setB ?_ (by first | omega | (simp only [size_alloc, size_setB, size_drew]; omega)) _ | exact Ext.trans (by assumption) (by assumption) | refine Ext.trans ?_ (by assumption)))) (by first | assumption | omega | (rw [sz_zero]; omega))) ?_)
      rintro _ w164_0 ⟨hE164_0, s164_0, rfl, hN164_0⟩
      refine ⟨fun _ => (by repeat (first | assumption | exact Ext.refl _ | refine Ext.alloc ?_ _ | refine Ext.drew ?_ | refine Ext.setB ?_ (by first | omega | (simp only [size_alloc, size_setB, size_drew]; omega)) _ | exact Ext.trans (by assumption) (by assumption) | refine Ext.trans ?_ (by assumption))), ?_⟩
      have hz164_0 := hE164_0.1
      try simp only [size_alloc, size_setB, size_drew] at hz164_0
      refine WH_nil ?_
      refine F_q (i := 5) rfl (by kernel_rfl) ?_
      refine WH_p (PS_move_ptr rfl) rfl ?_
      refine WH_nil ?_
      refine F_q (i := 6) rfl (by kernel_rfl) ?_
      refine WH_p (PS_nilCheck rfl) rfl ?_
      refine WH_nil ?_
      refine F_q (i := 7) rfl (by kernel_rfl) ?_
      refine WH_p (PS_fieldAddr 4 Hvac.runUnderlying95 rfl Hvac.sizeOf76 rfl rfl) rfl ?_
      refine WH_nil ?_
      refine F_q (i := 8) rfl (by kernel_rfl) ?_
      refine WH_load (.slice _ _ _) Hvac.isAgg76 rfl (Hb.h (by repeat (first | assumption | exact Hb.newY _ _ | refine Hb.alloc ?_ | refine Hb.drew ?_ | refine Hb.ext (by assumption) ?_ | exact Hb.setSameL (by first | omega | (simp only [size_alloc, size_setB, size_drew]; omega)) | exact Hb.setSame (by assumption) | refine Hb.set (by first | omega | (simp only [size_alloc, size_setB, size_drew]; omega)) ?_ ))) (Ce.h (by first | assumption | exact ⟨rfl⟩)) ?_
      refine WH_nil ?_
      refine F_fork1 (i := 9) rfl rfl ?_ ?_
      · refine WH_call Hvac.call165 (by rfl) (Ret.mono (yLogsOf_spec _ (OmB.ext hO (by repeat (first | assumption | exact Ext.refl _ | refine Ext.alloc ?_ _ | refine Ext.drew ?_ | refine Ext.setB ?_ (by first | omega | (simp only [size_alloc, size_setB, size_drew]; omega)) _ | exact Ext.trans (by assumption) (by assumption) | refine Ext.trans ?_ (by assumption)))) _ _ (by first | assumption | exact LgsA.ext (by assumption) (by repeat (first | assumption | exact Ext.refl _ | refine Ext.alloc ?_ _ | refine Ext.drew ?_ | refine Ext.setB ?_ (by first | omega | (simp only [size_alloc, size_setB, size_drew]; omega)) _ | exact Ext.trans (by assumption) (by assumption) | refine Ext.trans ?_ (by assumption)))) (by omega)) ?_)
        rintro _ w165_1 ⟨hE165_1, s165_1, rfl, hN165_1⟩
        refine ⟨(fun h => by cases h), ?_⟩
        have hz165_1 := hE165_1.1
        try simp only [size_alloc, size_setB, size_drew] at hz165_1
        refine WH_nil ?_
        refine F_q (i := 10) rfl (by kernel_rfl) ?_
        refine WH_p (PS_b95_34 rfl rfl) rfl ?_
        refine WH_nil ?_
        refine F_fork1B (i := 12) (by kernel_rfl) rfl ?_
        · refine WH_allocG Hvac.zeroValue95 ?_
          intro b3 v3 hg3 hE3 hH3 hl3
          try simp only [size_alloc, size_setB, size_drew] at hg3
          have hzz3 := hE3.1
          try simp only [size_alloc, size_setB, size_drew] at hzz3
          replace hH3 : Hb v3 b3 (.cells ((encWs ⟨(none, 0, 0), (none, 0, 0), (none, 0, 0), (none, 0, 0), (none, 0, 0), (none, 0, 0), (none, 0, 0), (none, 0, 0)⟩).toArray) 95 (0, 0)) := hH3
          refine ⟨fun _ => (by repeat (first | assumption | exact Ext.refl _ | refine Ext.alloc ?_ _ | refine Ext.drew ?_ | refine Ext.setB ?_ (by first | omega | (simp only [size_alloc, size_setB, size_drew]; omega)) _ | exact Ext.trans (by assumption) (by assumption) | refine Ext.trans ?_ (by assumption))), ?_⟩
          refine WH_nil ?_
          refine F_q (i := 12) rfl (by kernel_rfl) ?_
          first | refine WH_storeW Hvac.sizeOf95 rfl (v := .agg _) rfl (Hb.h (by repeat (first | assumption | exact Hb.newY _ _ | refine Hb.alloc ?_ | refine Hb.drew ?_ | refine Hb.ext (by assumption) ?_ | exact Hb.setSameL (by first | omega | (simp only [size_alloc, size_setB, size_drew]; omega)) | exact Hb.setSame (by assumption) | refine Hb.set (by first | omega | (simp only [size_alloc, size_setB, size_drew]; omega)) ?_ ))) rfl (by first | omega | assumption | rfl | decide | exact Nat.le_refl _ | (simp only [size_ic, Value.cells]; omega) | (simp [encWs]; done) | (simp; omega) | simp | exact encYA_sz (by assumption) | exact encYT_sz (by assumption) | exact encYM_sz (by assumption)) (by first | omega | assumption | rfl | decide | exact Nat.le_refl _ | (simp only [size_ic, Value.cells]; omega) | (simp [encWs]; done) | (simp; omega) | simp | exact encYA_sz (by assumption) | exact encYT_sz (by assumption) | exact encYM_sz (by assumption)) (by first | exact oneCell_ic | assumption | exact one_Ws2 _ | exact one_YA2 _ | exact one_YSl2 _ | exact one_YM2 _ | exact one_YT2 _ | exact one_L2 _) (fun h => by cases h) ?_ | refine WH_store Hvac.sizeOf95 rfl (v := .agg _) rfl (Hb.h (by repeat (first | assumption | exact Hb.newY _ _ | refine Hb.alloc ?_ | refine Hb.drew ?_ | refine Hb.ext (by assumption) ?_ | exact Hb.setSameL (by first | omega | (simp only [size_alloc, size_setB, size_drew]; omega)) | exact Hb.setSame (by assumption) | refine Hb.set (by first | omega | (simp only [size_alloc, size_setB, size_drew]; omega)) ?_ ))) (by first | omega | assumption | rfl | decide | exact Nat.le_refl _ | (simp only [size_ic, Value.cells]; omega) | (simp [encWs]; done) | (simp; omega) | simp | exact encYA_sz (by assumption) | exact encYT_sz (by assumption) | exact encYM_sz (by assumption)) (by first | omega | assumption | rfl | decide | exact Nat.le_refl _ | (simp only [size_ic, Value.cells]; omega) | (simp [encWs]; done) | (simp; omega) | simp | exact encYA_sz (by assumption) | exact encYT_sz (by assumption) | exact encYM_sz (by assumption)) (by first | exact oneCell_ic | assumption | exact one_Ws2 _ | exact one_YA2 _ | exact one_YSl2 _ | exact one_YM2 _ | exact one_YT2 _ | exact one_L2 _) (fun h => by cases h) ?_
          refine WH_nil ?_
          refine F_end ?_
          refine thn_normal ?_
          exact ⟨b3, _, ⟨rfl, rfl, rfl, trivial⟩, (by repeat (first | assumption | exact Ext.refl _ | refine Ext.alloc ?_ _ | refine Ext.drew ?_ | refine Ext.setB ?_ (by first | omega | (simp only [size_alloc, size_setB, size_drew]; omega)) _ | exact Ext.trans (by assumption) (by assumption) | refine Ext.trans ?_ (by assumption))), by omega, by omega, by omega, Hb.mk (Hb.h (by repeat (first | assumption | exact Hb.newY _ _ | refine Hb.alloc ?_ | refine Hb.drew ?_ | refine Hb.ext (by assumption) ?_ | exact Hb.setSameL (by first | omega | (simp only [size_alloc, size_setB, size_drew]; omega)) | exact Hb.setSame (by assumption) | refine Hb.set (by first | omega | (simp only [size_alloc, size_setB, size_drew]; omega)) ?_ ))), Hb.mk (Hb.h (by repeat (first | assumption | exact Hb.newY _ _ | refine Hb.alloc ?_ | refine Hb.drew ?_ | refine Hb.ext (by assumption) ?_ | exact Hb.setSameL (by first | omega | (simp only [size_alloc, size_setB, size_drew]; omega)) | exact Hb.setSame (by assumption) | refine Hb.set (by first | omega | (simp only [size_alloc, size_setB, size_drew]; omega)) ?_ ))), CF.set ⟨(by first | exact NN.nil _ | assumption | exact NN.ext (by assumption) (by repeat (first | assumption | exact Ext.refl _ | refine Ext.alloc ?_ _ | refine Ext.drew ?_ | refine Ext.setB ?_ (by first | omega | (simp only [size_alloc, size_setB, size_drew]; omega)) _ | exact Ext.trans (by assumption) (by assumption) | refine Ext.trans ?_ (by assumption)))), (by first | assumption | exact LgsR.ext (by assumption) (by repeat (first | assumption | exact Ext.refl _ | refine Ext.alloc ?_ _ | refine Ext.drew ?_ | refine Ext.setB ?_ (by first | omega | (simp only [size_alloc, size_setB, size_drew]; omega)) _ | exact Ext.trans (by assumption) (by assumption) | refine Ext.trans ?_ (by assumption)))), fun h => absurd h (by decide), fun h => absurd h (by decide), fun h => absurd h (by decide), fun h => absurd h (by decide), fun h => absurd h (by decide), fun h => absurd h (by decide)⟩ (Hb.mk (Hb.h (by repeat (first | assumption | exact Hb.newY _ _ | refine Hb.alloc ?_ | refine Hb.drew ?_ | refine Hb.ext (by assumption) ?_ | exact Hb.setSameL (by first | omega | (simp only [size_alloc, size_setB, size_drew]; omega)) | exact Hb.setSame (by assumption) | refine Hb.set (by first | omega | (simp only [size_alloc, size_setB, size_drew]; omega)) ?_ )))) (used_95 0), rfl, rfl, rfl⟩
      · refine WH_allocG Hvac.zeroValue95 ?_
        intro b3 v3 hg3 hE3 hH3 hl3
        try simp only [size_alloc, size_setB, size_drew] at hg3
        have hzz3 := hE3.1
        try simp only [size_alloc, size_setB, size_drew] at hzz3
        replace hH3 : Hb v3 b3 (.cells ((encWs ⟨(none, 0, 0), (none, 0, 0), (none, 0, 0), (none, 0, 0), (none, 0, 0), (none, 0, 0), (none, 0, 0), (none, 0, 0)⟩).toArray) 95 (0, 0)) := hH3
        refine ⟨fun _ => (by repeat (first | assumption | exact Ext.refl _ | refine Ext.alloc ?_ _ | refine Ext.drew ?_ | refine Ext.setB ?_ (by first | omega | (simp only [size_alloc, size_setB, size_drew]; omega)) _ | exact Ext.trans (by assumption) (by assumption) | refine Ext.trans ?_ (by assumption))), ?_⟩
        refine WH_nil ?_
        refine F_q (i := 9) rfl (by kernel_rfl) ?_
        refine WH_call Hvac.call165 (by rfl) (Ret.mono (yLogsOf_spec _ (OmB.ext hO (by repeat (first | assumption | exact Ext.refl _ | refine Ext.alloc ?_ _ | refine Ext.drew ?_ | refine Ext.setB ?_ (by first | omega | (simp only [size_alloc, size_setB, size_drew]; omega)) _ | exact Ext.trans (by assumption) (by assumption) | refine Ext.trans ?_ (by assumption)))) _ _ (by first | assumption | exact LgsA.ext (by assumption) (by repeat (first | assumption | exact Ext.refl _ | refine Ext.alloc ?_ _ | refine Ext.drew ?_ | refine Ext.setB ?_ (by first | omega | (simp only [size_alloc, size_setB, size_drew]; omega)) _ | exact Ext.trans (by assumption) (by assumption) | refine Ext.trans ?_ (by assumption)))) (by omega)) ?_)
        rintro _ w165_2 ⟨hE165_2, s165_2, rfl, hN165_2⟩
        refine ⟨(fun h => by cases h), ?_⟩
        have hz165_2 := hE165_2.1
        try simp only [size_alloc, size_setB, size_drew] at hz165_2
        refine WH_nil ?_
        refine F_q (i := 10) rfl (by kernel_rfl) ?_
        refine WH_p (PS_b95_34 rfl rfl) rfl ?_
        refine WH_nil ?_
        refine F_q (i := 12) rfl (by kernel_rfl) ?_
        first | refine WH_storeW Hvac.sizeOf95 rfl (v := .agg _) rfl (Hb.h (by repeat (first | assumption | exact Hb.newY _ _ | refine Hb.alloc ?_ | refine Hb.drew ?_ | refine Hb.ext (by assumption) ?_ | exact Hb.setSameL (by first | omega | (simp only [size_alloc, size_setB, size_drew]; omega)) | exact Hb.setSame (by assumption) | refine Hb.set (by first | omega | (simp only [size_alloc, size_setB, size_drew]; omega)) ?_ ))) rfl (by first | omega | assumption | rfl | decide | exact Nat.le_refl _ | (simp only [size_ic, Value.cells]; omega) | (simp [encWs]; done) | (simp; omega) | simp | exact encYA_sz (by assumption) | exact encYT_sz (by assumption) | exact encYM_sz (by assumption)) (by first | omega | assumption | rfl | decide | exact Nat.le_refl _ | (simp only [size_ic, Value.cells]; omega) | (simp [encWs]; done) | (simp; omega) | simp | exact encYA_sz (by assumption) | exact encYT_sz (by assumption) | exact encYM_sz (by assumption)) (by first | exact oneCell_ic | assumption | exact one_Ws2 _ | exact one_YA2 _ | exact one_YSl2 _ | exact one_YM2 _ | exact one_YT2 _ | exact one_L2 _) (fun h => by cases h) ?_ | refine WH_store Hvac.sizeOf95 rfl (v := .agg _) rfl (Hb.h (by repeat (first | assumption | exact Hb.newY _ _ | refine Hb.alloc ?_ | refine Hb.drew ?_ | refine Hb.ext (by assumption) ?_ | exact Hb.setSameL (by first | omega | (simp only [size_alloc, size_setB, size_drew]; omega)) | exact Hb.setSame (by assumption) | refine Hb.set (by first | omega | (simp only [size_alloc, size_setB, size_drew]; omega)) ?_ ))) (by first | omega | assumption | rfl | decide | exact Nat.le_refl _ | (simp only [size_ic, Value.cells]; omega) | (simp [encWs]; done) | (simp; omega) | simp | exact encYA_sz (by assumption) | exact encYT_sz (by assumption) | exact encYM_sz (by assumption)) (by first | omega | assumption | rfl | decide | exact Nat.le_refl _ | (simp only [size_ic, Value.cells]; omega) | (simp [encWs]; done) | (simp; omega) | simp | exact encYA_sz (by assumption) | exact encYT_sz (by assumption) | exact encYM_sz (by assumption)) (by first | exact oneCell_ic | assumption | exact one_Ws2 _ | exact one_YA2 _ | exact one_YSl2 _ | exact one_YM2 _ | exact one_YT2 _ | exact one_L2 _) (fun h => by cases h) ?_
        refine WH_nil ?_
        refine F_end ?_
        refine thn_normal ?_
        exact ⟨b3, _, ⟨rfl, rfl, rfl, trivial⟩, (by repeat (first | assumption | exact Ext.refl _ | refine Ext.alloc ?_ _ | refine Ext.drew ?_ | refine Ext.setB ?_ (by first | omega | (simp only [size_alloc, size_setB, size_drew]; omega)) _ | exact Ext.trans (by assumption) (by assumption) | refine Ext.trans ?_ (by assumption))), by omega, by omega, by omega, Hb.mk (Hb.h (by repeat (first | assumption | exact Hb.newY _ _ | refine Hb.alloc ?_ | refine Hb.drew ?_ | refine Hb.ext (by assumption) ?_ | exact Hb.setSameL (by first | omega | (simp only [size_alloc, size_setB, size_drew]; omega)) | exact Hb.setSame (by assumption) | refine Hb.set (by first | omega | (simp only [size_alloc, size_setB, size_drew]; omega)) ?_ ))), Hb.mk (Hb.h (by repeat (first | assumption | exact Hb.newY _ _ | refine Hb.alloc ?_ | refine Hb.drew ?_ | refine Hb.ext (by assumption) ?_ | exact Hb.setSameL (by first | omega | (simp only [size_alloc, size_setB, size_drew]; omega)) | exact Hb.setSame (by assumption) | refine Hb.set (by first | omega | (simp only [size_alloc, size_setB, size_drew]; omega)) ?_ ))), CF.set ⟨(by first | exact NN.nil _ | assumption | exact NN.ext (by assumption) (by repeat (first | assumption | exact Ext.refl _ | refine Ext.alloc ?_ _ | refine Ext.drew ?_ | refine Ext.setB ?_ (by first | omega | (simp only [size_alloc, size_setB, size_drew]; omega)) _ | exact Ext.trans (by assumption) (by assumption) | refine Ext.trans ?_ (by assumption)))), (by first | assumption | exact LgsR.ext (by assumption) (by repeat (first | assumption | exact Ext.refl _ | refine Ext.alloc ?_ _ | refine Ext.drew ?_ | refine Ext.setB ?_ (by first | omega | (simp only [size_alloc, size_setB, size_drew]; omega)) _ | exact Ext.trans (by assumption) (by assumption) | refine Ext.trans ?_ (by assumption)))), fun h => absurd h (by decide), fun h => absurd h (by decide), fun h => absurd h (by decide), fun h => absurd h (by decide), fun h => absurd h (by decide), fun h => absurd h (by decide)⟩ (Hb.mk (Hb.h (by repeat (first | assumption | exact Hb.newY _ _ | refine Hb.alloc ?_ | refine Hb.drew ?_ | refine Hb.ext (by assumption) ?_ | exact Hb.setSameL (by first | omega | (simp only [size_alloc, size_setB, size_drew]; omega)) | exact Hb.setSame (by assumption) | refine Hb.set (by first | omega | (simp only [size_alloc, size_setB, size_drew]; omega)) ?_ )))) (used_95 0), rfl, rfl, rfl⟩
    · refine WH_allocG Hvac.zeroValue95 ?_
      intro b3 v3 hg3 hE3 hH3 hl3
      try simp only [size_alloc, size_setB, size_drew] at hg3
      have hzz3 := hE3.1
      try simp only [size_alloc, size_setB, size_drew] at hzz3
      replace hH3 : Hb v3 b3 (.cells ((encWs ⟨(none, 0, 0), (none, 0, 0), (none, 0, 0), (none, 0, 0), (none, 0, 0), (none, 0, 0), (none, 0, 0), (none, 0, 0)⟩).toArray) 95 (0, 0)) := hH3
      refine ⟨fun _ => (by repeat (first | assumption | exact Ext.refl _ | refine Ext.alloc ?_ _ | refine Ext.drew ?_ | refine Ext.setB ?_ (by first | omega | (simp only [size_alloc, size_setB, size_drew]; omega)) _ | exact Ext.trans (by assumption) (by assumption) | refine Ext.trans ?_ (by assumption))), ?_⟩
      refine WH_nil ?_
      refine F_q (i := 4) rfl (by kernel_rfl) ?_
      refine WH_call Hvac.call164 (by rfl) (Ret.mono (yNatOf_spec _ (OmB.ext hO (by repeat (first | assumption | exact Ext.refl _ | refine Ext.alloc ?_ _ | refine Ext.drew ?_ | refine Ext.setB ?_ (by first | omega | (simp only [size_alloc, size_setB, size_drew]; omega)) _ | exact Ext.trans (by assumption) (by assumption) | refine Ext.trans ?_ (by assumption)))) _ _ _ _ (by first | exact NN.nil _ | assumption | exact NN.ext (by assumption) (by repeat (first | assumption | exact Ext.refl _ | refine Ext.alloc ?_ _ | refine Ext.drew ?_ | refine Ext.setB ?_ (by first | omega | (simp only [size_alloc, size_setB, size_drew]; omega)) _ | exact Ext.trans (by assumption) (by assumption) | refine Ext.trans ?_ (by assumption)))) (by first | assumption | omega | (rw [sz_zero]; omega))) ?_)
      rintro _ w164_3 ⟨hE164_3, s164_3, rfl, hN164_3⟩
      refine ⟨fun _ => (by repeat (first | assumption | exact Ext.refl _ | refine Ext.alloc ?_ _ | refine Ext.drew ?_ | refine Ext.setB ?_ (by first | omega | (simp only [size_alloc, size_setB, size_drew]; omega)) _ | exact Ext.trans (by assumption) (by assumption) | refine Ext.trans ?_ (by assumption))), ?_⟩
      have hz164_3 := hE164_3.1
      try simp only [size_alloc, size_setB, size_drew] at hz164_3
      refine WH_nil ?_
      refine F_q (i := 5) rfl (by kernel_rfl) ?_
      refine WH_p (PS_move_ptr rfl) rfl ?_
      refine WH_nil ?_
      refine F_q (i := 6) rfl (by kernel_rfl) ?_
      refine WH_p (PS_nilCheck rfl) rfl ?_
      refine WH_nil ?_
      refine F_q (i := 7) rfl (by kernel_rfl) ?_
      refine WH_p (PS_fieldAddr 4 Hvac.runUnderlying95 rfl Hvac.sizeOf76 rfl rfl) rfl ?_
      refine WH_nil ?_
      refine F_q (i := 8) rfl (by kernel_rfl) ?_
      refine WH_load (.slice _ _ _) Hvac.isAgg76 rfl (Hb.h (by repeat (first | assumption | exact Hb.newY _ _ | refine Hb.alloc ?_ | refine Hb.drew ?_ | refine Hb.ext (by assumption) ?_ | exact Hb.setSameL (by first | omega | (simp only [size_alloc, size_setB, size_drew]; omega)) | exact Hb.setSame (by assumption) | refine Hb.set (by first | omega | (simp only [size_alloc, size_setB, size_drew]; omega)) ?_ ))) (Ce.h (by first | assumption | exact ⟨rfl⟩)) ?_
      refine WH_nil ?_
      refine F_q (i := 9) rfl (by kernel_rfl) ?_
      refine WH_call Hvac.call165 (by rfl) (Ret.mono (yLogsOf_spec _ (OmB.ext hO (by repeat (first | assumption | exact Ext.refl _ | refine Ext.alloc ?_ _ | refine Ext.drew ?_ | refine Ext.setB ?_ (by first | omega | (simp only [size_alloc, size_setB, size_drew]; omega)) _ | exact Ext.trans (by assumption) (by assumption) | refine Ext.trans ?_ (by assumption)))) _ _ (by first | assumption | exact LgsA.ext (by assumption) (by repeat (first | assumption | exact Ext.refl _ | refine Ext.alloc ?_ _ | refine Ext.drew ?_ | refine Ext.setB ?_ (by first | omega | (simp only [size_alloc, size_setB, size_drew]; omega)) _ | exact Ext.trans (by assumption) (by assumption) | refine Ext.trans ?_ (by assumption)))) (by omega)) ?_)
      rintro _ w165_4 ⟨hE165_4, s165_4, rfl, hN165_4⟩
      refine ⟨(fun h => by cases h), ?_⟩
      have hz165_4 := hE165_4.1
      try simp only [size_alloc, size_setB, size_drew] at hz165_4
      refine WH_nil ?_
      refine F_q (i := 10) rfl (by kernel_rfl) ?_
      refine WH_p (PS_b95_34 rfl rfl) rfl ?_
      refine WH_nil ?_
      refine F_q (i := 12) rfl (by kernel_rfl) ?_
      first | refine WH_storeW Hvac.sizeOf95 rfl (v := .agg _) rfl (Hb.h (by repeat (first | assumption | exact Hb.newY _ _ | refine Hb.alloc ?_ | refine Hb.drew ?_ | refine Hb.ext (by assumption) ?_ | exact Hb.setSameL (by first | omega | (simp only [size_alloc, size_setB, size_drew]; omega)) | exact Hb.setSame (by assumption) | refine Hb.set (by first | omega | (simp only [size_alloc, size_setB, size_drew]; omega)) ?_ ))) rfl (by first | omega | assumption | rfl | decide | exact Nat.le_refl _ | (simp only [size_ic, Value.cells]; omega) | (simp [encWs]; done) | (simp; omega) | simp | exact encYA_sz (by assumption) | exact encYT_sz (by assumption) | exact encYM_sz (by assumption)) (by first | omega | assumption | rfl | decide | exact Nat.le_refl _ | (simp only [size_ic, Value.cells]; omega) | (simp [encWs]; done) | (simp; omega) | simp | exact encYA_sz (by assumption) | exact encYT_sz (by assumption) | exact encYM_sz (by assumption)) (by first | exact oneCell_ic | assumption | exact one_Ws2 _ | exact one_YA2 _ | exact one_YSl2 _ | exact one_YM2 _ | exact one_YT2 _ | exact one_L2 _) (fun h => by cases h) ?_ | refine WH_store Hvac.sizeOf95 rfl (v := .agg _) rfl (Hb.h (by repeat (first | assumption | exact Hb.newY _ _ | refine Hb.alloc ?_ | refine Hb.drew ?_ | refine Hb.ext (by assumption) ?_ | exact Hb.setSameL (by first | omega | (simp only [size_alloc, size_setB, size_drew]; omega)) | exact Hb.setSame (by assumption) | refine Hb.set (by first | omega | (simp only [size_alloc, size_setB, size_drew]; omega)) ?_ ))) (by first | omega | assumption | rfl | decide | exact Nat.le_refl _ | (simp only [size_ic, Value.cells]; omega) | (simp [encWs]; done) | (simp; omega) | simp | exact encYA_sz (by assumption) | exact encYT_sz (by assumption) | exact encYM_sz (by assumption)) (by first | omega | assumption | rfl | decide | exact Nat.le_refl _ | (simp only [size_ic, Value.cells]; omega) | (simp [encWs]; done) | (simp; omega) | simp | exact encYA_sz (by assumption) | exact encYT_sz (by assumption) | exact encYM_sz (by assumption)) (by first | exact oneCell_ic | assumption | exact one_Ws2 _ | exact one_YA2 _ | exact one_YSl2 _ | exact one_YM2 _ | exact one_YT2 _ | exact one_L2 _) (fun h => by cases h) ?_
      refine WH_nil ?_
      refine F_end ?_
      refine thn_normal ?_
      exact ⟨b3, _, ⟨rfl, rfl, rfl, trivial⟩, (by repeat (first | assumption | exact Ext.refl _ | refine Ext.alloc ?_ _ | refine Ext.drew ?_ | refine Ext.setB ?_ (by first | omega | (simp only [size_alloc, size_setB, size_drew]; omega)) _ | exact Ext.trans (by assumption) (by assumption) | refine Ext.trans ?_ (by assumption))), by omega, by omega, by omega, Hb.mk (Hb.h (by repeat (first | assumption | exact Hb.newY _ _ | refine Hb.alloc ?_ | refine Hb.drew ?_ | refine Hb.ext (by assumption) ?_ | exact Hb.setSameL (by first | omega | (simp only [size_alloc, size_setB, size_drew]; omega)) | exact Hb.setSame (by assumption) | refine Hb.set (by first | omega | (simp only [size_alloc, size_setB, size_drew]; omega)) ?_ ))), Hb.mk (Hb.h (by repeat (first | assumption | exact Hb.newY _ _ | refine Hb.alloc ?_ | refine Hb.drew ?_ | refine Hb.ext (by assumption) ?_ | exact Hb.setSameL (by first | omega | (simp only [size_alloc, size_setB, size_drew]; omega)) | exact Hb.setSame (by assumption) | refine Hb.set (by first | omega | (simp only [size_alloc, size_setB, size_drew]; omega)) ?_ ))), CF.set ⟨(by first | exact NN.nil _ | assumption | exact NN.ext (by assumption) (by repeat (first | assumption | exact Ext.refl _ | refine Ext.alloc ?_ _ | refine Ext.drew ?_ | refine Ext.setB ?_ (by first | omega | (simp only [size_alloc, size_setB, size_drew]; omega)) _ | exact Ext.trans (by assumption) (by assumption) | refine Ext.trans ?_ (by assumption)))), (by first | assumption | exact LgsR.ext (by assumption) (by repeat (first | assumption | exact Ext.refl _ | refine Ext.alloc ?_ _ | refine Ext.drew ?_ | refine Ext.setB ?_ (by first | omega | (simp only [size_alloc, size_setB, size_drew]; omega)) _ | exact Ext.trans (by assumption) (by assumption) | refine Ext.trans ?_ (by assumption)))), fun h => absurd h (by decide), fun h => absurd h (by decide), fun h => absurd h (by decide), fun h => absurd h (by decide), fun h => absurd h (by decide), fun h => absurd h (by decide)⟩ (Hb.mk (Hb.h (by repeat (first | assumption | exact Hb.newY _ _ | refine Hb.alloc ?_ | refine Hb.drew ?_ | refine Hb.ext (by assumption) ?_ | exact Hb.setSameL (by first | omega | (simp only [size_alloc, size_setB, size_drew]; omega)) | exact Hb.setSame (by assumption) | refine Hb.set (by first | omega | (simp only [size_alloc, size_setB, size_drew]; omega)) ?_ )))) (used_95 0), rfl, rfl, rfl⟩
  · rintro ρ2 w2 ⟨b3, y, hFr2, hE2, hb23, hb3w, hb2w, hb22, hb32, hCF2, hya, hys, hyt⟩
    have hWl : (encWs y).toArray.size = 8 := rfl
    refine W_env _ hFr2 ?_
    have hz2 := hE2.1
    have hb2l2 := hb22.lt
    have hb3l2 := hb32.lt
    have hS2 := hS.ext hE2
    refine W_seqJ (fun ρ w' => ∃ pA, Fr [(0, .pointer (some ⟨S, 0, none⟩)), (2, .pointer (some ⟨b2, 0, none⟩)), (3, .pointer (some ⟨b3, 0, none⟩))] ρ ∧ Ext w w' ∧ b2 ≠ b3 ∧ w.heap.size ≤ b3 ∧ w.heap.size ≤ b2 ∧ Hb w' b2 (.cells (encWs ⟨(none, 0, 0), (none, 0, 0), (none, 0, 0), (none, 0, 0), (none, 0, 0), (none, 0, 0), (none, 0, 0), (none, 0, 0)⟩).toArray 95 (0, 0)) ∧ Hb w' b3 (.cells (encWs { y with accts := (pA, n, n) }).toArray 95 (0, 0)) ∧ CF w' { y with accts := (pA, n, n) } q 0 ∧ FL encYA 24 104 w [b3, b2] w' (pA, n, n) n ([] : List YAc)) ?_ ?_
    · skip
      refine W_seq ?_
      refine W_region rfl ?_
      refine WO_p (PS_move_ptr rfl) ?_
      refine WO_p (PS_nilCheck rfl) ?_
      refine WO_p (PS_fieldAddr 0 Hvac.runUnderlying95 rfl Hvac.sizeOf89 rfl rfl) ?_
      refine WO_load (.slice _ _ _) Hvac.isAgg89 rfl (Hb.h (by repeat (first | assumption | exact Hb.newY _ _ | refine Hb.alloc ?_ | refine Hb.drew ?_ | refine Hb.ext (by assumption) ?_ | exact Hb.setSameL (by first | omega | (simp only [size_alloc, size_setB, size_drew]; omega)) | exact Hb.setSame (by assumption) | refine Hb.set (by first | omega | (simp only [size_alloc, size_setB, size_drew]; omega)) ?_ ))) (Ce.h (by first | assumption | exact ⟨rfl⟩)) ?_
      refine WO_p (PS_neqslnil Hvac.underlying89 rfl) ?_
      refine WO_nil ?_
      refine thn_normal ?_
      refine W_if rfl (fun hb7 => ?_) (fun hb7 => ?_)
      · have hb7p := hb7.h; try simp only [al_ete, al_dfn, Bool.not_eq_true', Bool.not_eq_false', al_ne, Bool.not_not, al_nn] at hb7p
        have hpS : p ≠ none := by intro h9; rw [h9] at hb7p; simp at hb7p
        refine W_region rfl ?_
        refine WO_p (PS_move_ptr rfl) ?_
        refine WO_p (PS_nilCheck rfl) ?_
        refine WO_p (PS_fieldAddr 0 Hvac.runUnderlying95 rfl Hvac.sizeOf89 rfl rfl) ?_
        refine WO_load (.slice _ _ _) Hvac.isAgg89 rfl (Hb.h (by repeat (first | assumption | exact Hb.newY _ _ | refine Hb.alloc ?_ | refine Hb.drew ?_ | refine Hb.ext (by assumption) ?_ | exact Hb.setSameL (by first | omega | (simp only [size_alloc, size_setB, size_drew]; omega)) | exact Hb.setSame (by assumption) | refine Hb.set (by first | omega | (simp only [size_alloc, size_setB, size_drew]; omega)) ?_ ))) (Ce.h (by first | assumption | exact ⟨rfl⟩)) ?_
        refine WO_p (PS_lenS Hvac.runUnderlying89 rfl) ?_
        refine WO_make (z := .agg (encYA (ac0 (List.replicate 20 0))).toArray) Hvac.underlying89 info104 rfl rfl rfl (by omega) (by omega) (by show ((120 : Nat) : Int) * _ ≤ _; omega) (by omega) ?_
        rw [show ((n : Int)).toNat = n from Int.toNat_natCast _]
        refine WO_p (PS_fieldAddr 0 Hvac.runUnderlying95 rfl Hvac.sizeOf89 rfl rfl) ?_
        refine WO_store1 Hvac.sizeOf89 rfl (v := (.slice _ _ _)) rfl (Hb.h (by repeat (first | assumption | exact Hb.newY _ _ | refine Hb.alloc ?_ | refine Hb.drew ?_ | refine Hb.ext (by assumption) ?_ | exact Hb.setSameL (by first | omega | (simp only [size_alloc, size_setB, size_drew]; omega)) | exact Hb.setSame (by assumption) | refine Hb.set (by first | omega | (simp only [size_alloc, size_setB, size_drew]; omega)) ?_ ))) rfl (by first | omega | assumption | rfl | decide | exact Nat.le_refl _ | (simp only [size_ic, Value.cells]; omega) | (simp [encWs]; done) | (simp; omega) | simp | exact encYA_sz (by assumption) | exact encYT_sz (by assumption) | exact encYM_sz (by assumption)) rfl ?_
        refine WO_nil ?_
        refine thn_normal ?_
        exact ⟨some ⟨_, 0, none⟩, ⟨rfl, rfl, rfl, trivial⟩, (by repeat (first | assumption | exact Ext.refl _ | refine Ext.alloc ?_ _ | refine Ext.drew ?_ | refine Ext.setB ?_ (by first | omega | (simp only [size_alloc, size_setB, size_drew]; omega)) _ | exact Ext.trans (by assumption) (by assumption) | refine Ext.trans ?_ (by assumption))), hb23, hb3w, hb2w, Hb.mk (Hb.h (by repeat (first | assumption | exact Hb.newY _ _ | refine Hb.alloc ?_ | refine Hb.drew ?_ | refine Hb.ext (by assumption) ?_ | exact Hb.setSameL (by first | omega | (simp only [size_alloc, size_setB, size_drew]; omega)) | exact Hb.setSame (by assumption) | refine Hb.set (by first | omega | (simp only [size_alloc, size_setB, size_drew]; omega)) ?_ ))), Hb.mk (Hb.h (by repeat (first | assumption | exact Hb.newY _ _ | refine Hb.alloc ?_ | refine Hb.drew ?_ | refine Hb.ext (by assumption) ?_ | exact Hb.setSameL (by first | omega | (simp only [size_alloc, size_setB, size_drew]; omega)) | exact Hb.setSame (by assumption) | refine Hb.set (by first | omega | (simp only [size_alloc, size_setB, size_drew]; omega)) ?_ ))), CF.set (CF.f0 (CF.ext hCF2 (by repeat (first | assumption | exact Ext.refl _ | refine Ext.alloc ?_ _ | refine Ext.drew ?_ | refine Ext.setB ?_ (by first | omega | (simp only [size_alloc, size_setB, size_drew]; omega)) _ | exact Ext.trans (by assumption) (by assumption) | refine Ext.trans ?_ (by assumption))))) (Hb.mk (Hb.h (by repeat (first | assumption | exact Hb.newY _ _ | refine Hb.alloc ?_ | refine Hb.drew ?_ | refine Hb.ext (by assumption) ?_ | exact Hb.setSameL (by first | omega | (simp only [size_alloc, size_setB, size_drew]; omega)) | exact Hb.setSame (by assumption) | refine Hb.set (by first | omega | (simp only [size_alloc, size_setB, size_drew]; omega)) ?_ )))) (used_95 0), FL.set (FL.made (Hb.newY _ _) (size_madeCells _ _) (by first | omega | (simp only [size_alloc, size_setB, size_drew]; omega)) (by simp; omega)) (Or.inl (by simp)) _⟩
      · have hb7p := hb7.h; try simp only [al_ete, al_dfn, Bool.not_eq_true', Bool.not_eq_false', al_ne, Bool.not_not, al_nn] at hb7p
        have hpS : p = none := by simpa using hb7p
        have hn0 : n = 0 := by
          rcases Nat.eq_zero_or_pos n with h0 | h0
          · exact h0
          · obtain ⟨b, r, fz, h1, _⟩ := hPA.at_ h0
            rw [hpS] at h1; cases h1
        refine W_skip ?_
        refine thn_normal ?_
        subst hn0; exact ⟨none, ⟨rfl, rfl, rfl, trivial⟩, (by repeat (first | assumption | exact Ext.refl _ | refine Ext.alloc ?_ _ | refine Ext.drew ?_ | refine Ext.setB ?_ (by first | omega | (simp only [size_alloc, size_setB, size_drew]; omega)) _ | exact Ext.trans (by assumption) (by assumption) | refine Ext.trans ?_ (by assumption))), hb23, hb3w, hb2w, Hb.mk (Hb.h (by repeat (first | assumption | exact Hb.newY _ _ | refine Hb.alloc ?_ | refine Hb.drew ?_ | refine Hb.ext (by assumption) ?_ | exact Hb.setSameL (by first | omega | (simp only [size_alloc, size_setB, size_drew]; omega)) | exact Hb.setSame (by assumption) | refine Hb.set (by first | omega | (simp only [size_alloc, size_setB, size_drew]; omega)) ?_ ))), by rw [← hya]; exact Hb.mk (Hb.h (by repeat (first | assumption | exact Hb.newY _ _ | refine Hb.alloc ?_ | refine Hb.drew ?_ | refine Hb.ext (by assumption) ?_ | exact Hb.setSameL (by first | omega | (simp only [size_alloc, size_setB, size_drew]; omega)) | exact Hb.setSame (by assumption) | refine Hb.set (by first | omega | (simp only [size_alloc, size_setB, size_drew]; omega)) ?_ ))), by rw [← hya]; exact CF.ext hCF2 (by repeat (first | assumption | exact Ext.refl _ | refine Ext.alloc ?_ _ | refine Ext.drew ?_ | refine Ext.setB ?_ (by first | omega | (simp only [size_alloc, size_setB, size_drew]; omega)) _ | exact Ext.trans (by assumption) (by assumption) | refine Ext.trans ?_ (by assumption))), FL.nil _ _ _ _ _ _⟩
    · rintro ρ4 w4 ⟨pA, hFr4, hE4, _, _, _, hb24, hb34, hCF4, hFL4⟩
      refine W_env _ hFr4 ?_
      have hz4 := hE4.1
      have hb2l4 := hb24.lt
      have hb3l4 := hb34.lt
      have hS4 := hS.ext hE4
      refine W_seq ?_
      refine W_seq ?_
      refine W_region rfl ?_
      refine WO_p (PS_move_ptr rfl) ?_
      refine WO_p (PS_nilCheck rfl) ?_
      refine WO_p (PS_fieldAddr 0 Hvac.runUnderlying95 rfl Hvac.sizeOf89 rfl rfl) ?_
      refine WO_load (.slice _ _ _) Hvac.isAgg89 rfl (Hb.h (by repeat (first | assumption | exact Hb.newY _ _ | refine Hb.alloc ?_ | refine Hb.drew ?_ | refine Hb.ext (by assumption) ?_ | exact Hb.setSameL (by first | omega | (simp only [size_alloc, size_setB, size_drew]; omega)) | exact Hb.setSame (by assumption) | refine Hb.set (by first | omega | (simp only [size_alloc, size_setB, size_drew]; omega)) ?_ ))) (Ce.h (by first | assumption | exact ⟨rfl⟩)) ?_
      refine WO_p (PS_lenS Hvac.runUnderlying89 rfl) ?_
      refine WO_p (PS_move_int rfl) ?_
      refine WO_nil ?_
      refine thn_normal ?_
      refine W_block ?_
      refine W_loopN (fun k9 ρ w' => ∃ (i : Nat) (K : List YAc), i + k9 = n ∧ K.length = i ∧ FL encYA 24 104 w [b3, b2] w' (pA, n, n) n K ∧ R2 (AcR w') K (q.accts.take i) ∧ CF w' { y with accts := (pA, n, n) } q 0 ∧ Fr [(0, .pointer (some ⟨S, 0, none⟩)), (2, .pointer (some ⟨b2, 0, none⟩)), (3, .pointer (some ⟨b3, 0, none⟩)), (39, .slice p n cp), (40, .int .i64 n), (41, .int .i64 i)] ρ ∧ Ext w w' ∧ Hb w' b3 (.cells (encWs { y with accts := (pA, n, n) }).toArray 95 (0, 0)) ∧ Hb w' b2 (.cells (encWs ⟨(none, 0, 0), (none, 0, 0), (none, 0, 0), (none, 0, 0), (none, 0, 0), (none, 0, 0), (none, 0, 0), (none, 0, 0)⟩).toArray 95 (0, 0))) n ?_ ?_
      · exact ⟨0, [], by omega, rfl, hFL4, R2.nil _, hCF4, ⟨rfl, rfl, rfl, rfl, rfl, rfl, trivial⟩, (by repeat (first | assumption | exact Ext.refl _ | refine Ext.alloc ?_ _ | refine Ext.drew ?_ | refine Ext.setB ?_ (by first | omega | (simp only [size_alloc, size_setB, size_drew]; omega)) _ | refine Ext.trans ?_ (by assumption))), hb34, hb24⟩
      intro k30 ρ30 w30 hI30
      obtain ⟨i, K, hik, hKi, hFL5, hKR5, hCF5, hFr30, hE30, hb35, hb25⟩ := hI30
      refine W_env _ hFr30 ?_
      have hz30 := hE30.1
      have hb35_l := hb35.lt
      have hb25_l := hb25.lt
      refine W_seq ?_
      refine W_region rfl ?_
      refine WO_p (PS_lss rfl rfl) ?_
      refine WO_nil ?_
      refine thn_normal ?_
      refine W_seq ?_
      refine W_if rfl (fun hb9 => ?_) (fun hb9 => ?_)
      · have hb9p := hb9.h; try simp only [al_ete, al_dfn, Bool.not_eq_true', Bool.not_eq_false', al_ne, Bool.not_not, al_nn] at hb9p
        obtain ⟨x2, y2, hx2, hy2, hxy2⟩ := hRA.get (i := i) (by omega)
        have hxl2 : x2.addr.length = 20 := by rw [hxy2.addr]; exact hxy2.ab.1
        have hxE2 := encYA_len hxl2
        obtain ⟨bs, rs, fzs, hp, hbs, hrs, hXi⟩ := pl_at (hPA.ext hE30) hx2 hxE2
        subst hp
        have hX2 := encYA_addr hxl2
        have hq1 := encYA_1 hxl2
        have hq2 := encYA_2 hxl2
        have hq3 := encYA_3 hxl2
        have hq4 := encYA_4 hxl2
        have hsz2 : (encYA x2).toArray.size = 24 := by simpa using hxE2
        have hab2 := hxy2.ab
        rw [← hxy2.addr] at hab2
        have hv1 := hxy2.nonce.ext hE30
        have hv2 := hxy2.bal.ext hE30
        have hv3 := hxy2.code.ext hE30
        have hv1z := hxy2.nz
        have hv2z := hxy2.bz
        have hv3l := hv3.len
        have hv3b := hB.cd y2 (List.mem_of_getElem? hy2)
        have hsl2 := hB.sl y2 (List.mem_of_getElem? hy2)
        obtain ⟨LS, hPS, hRS⟩ := hxy2.slots
        obtain ⟨xs, hxs⟩ : ∃ xs, xs = x2.slots := ⟨_, rfl⟩
        rw [← hxs] at hPS hq4
        obtain ⟨pz, m, cz⟩ := xs
        have hnS := hPS.len
        dsimp only at hnS hq4
        have hRS1 := hRS.1
        obtain ⟨bA, rA, hpA, hbA0, hbAX, hbA, hrA5, hRAA⟩ := hFL5.row (by omega)
        dsimp only at hpA
        subst hpA
        have hbAl := hbA.lt
        have hAb : 0 + i * 24 + 24 ≤ rA.size := by rw [hrA5]; have := Nat.mul_le_mul_right 24 (show i + 1 ≤ n by omega); omega
        have hbAne3 : bA ≠ b3 := by intro e; apply hbAX; simp [e]
        have hbAne2 : bA ≠ b2 := by intro e; apply hbAX; simp [e]
        refine W_skip ?_
        refine thn_normal ?_
        refine W_seq ?_
        refine W_block ?_
        refine W_seq ?_
        refine W_region rfl ?_
        refine WO_p (PS_move_int rfl) ?_
        refine WO_p (PS_indexS Hvac.runUnderlying89 Hvac.sizeOf104 rfl rfl (by omega) (by omega)) ?_
        refine WO_loadA _ Hvac.isAgg104 Hvac.sizeOf104 rfl (Hb.h (by repeat (first | assumption | exact Hb.newY _ _ | refine Hb.alloc ?_ | refine Hb.drew ?_ | refine Hb.ext (by assumption) ?_ | exact Hb.setSameL (by first | omega | (simp only [size_alloc, size_setB, size_drew]; omega)) | exact Hb.setSame (by assumption) | refine Hb.set (by first | omega | (simp only [size_alloc, size_setB, size_drew]; omega)) ?_ ))) (by first | omega | assumption | rfl | decide | exact Nat.le_refl _ | (simp only [size_ic, Value.cells]; omega) | (simp [encWs]; done) | (simp; omega) | simp | exact encYA_sz (by assumption) | exact encYT_sz (by assumption) | exact encYM_sz (by assumption)) (Xt.h (by first | assumption | exact Xt.whole rfl rfl | exact Xt.whole rfl (by assumption) | exact Xt.whole rfl (by simp only [size_ic, Value.cells]; omega) | exact ⟨rfl⟩)) ?_
        refine WO_allocG Hvac.zeroValue104 ?_
        intro b5 v5 hg5 hE5 hH5 hl5
        try simp only [size_alloc, size_setB, size_drew] at hg5
        have hzz5 := hE5.1
        try simp only [size_alloc, size_setB, size_drew] at hzz5
        replace hH5 : Hb v5 b5 (.cells ((encYA (ac0 (List.replicate 20 0))).toArray) 104 (0, 0)) := hH5
        refine WO_p (PS_assign_int rfl) ?_
        first | refine WO_storeW Hvac.sizeOf104 rfl (v := .agg _) rfl (Hb.h (by repeat (first | assumption | exact Hb.newY _ _ | refine Hb.alloc ?_ | refine Hb.drew ?_ | refine Hb.ext (by assumption) ?_ | exact Hb.setSameL (by first | omega | (simp only [size_alloc, size_setB, size_drew]; omega)) | exact Hb.setSame (by assumption) | refine Hb.set (by first | omega | (simp only [size_alloc, size_setB, size_drew]; omega)) ?_ ))) rfl (by first | omega | assumption | rfl | decide | exact Nat.le_refl _ | (simp only [size_ic, Value.cells]; omega) | (simp [encWs]; done) | (simp; omega) | simp | exact encYA_sz (by assumption) | exact encYT_sz (by assumption) | exact encYM_sz (by assumption)) (by first | omega | assumption | rfl | decide | exact Nat.le_refl _ | (simp only [size_ic, Value.cells]; omega) | (simp [encWs]; done) | (simp; omega) | simp | exact encYA_sz (by assumption) | exact encYT_sz (by assumption) | exact encYM_sz (by assumption)) (by first | exact oneCell_ic | assumption | exact one_Ws2 _ | exact one_YA2 _ | exact one_YSl2 _ | exact one_YM2 _ | exact one_YT2 _ | exact one_L2 _) ?_ | refine WO_store Hvac.sizeOf104 rfl (v := .agg _) rfl (Hb.h (by repeat (first | assumption | exact Hb.newY _ _ | refine Hb.alloc ?_ | refine Hb.drew ?_ | refine Hb.ext (by assumption) ?_ | exact Hb.setSameL (by first | omega | (simp only [size_alloc, size_setB, size_drew]; omega)) | exact Hb.setSame (by assumption) | refine Hb.set (by first | omega | (simp only [size_alloc, size_setB, size_drew]; omega)) ?_ ))) (by first | omega | assumption | rfl | decide | exact Nat.le_refl _ | (simp only [size_ic, Value.cells]; omega) | (simp [encWs]; done) | (simp; omega) | simp | exact encYA_sz (by assumption) | exact encYT_sz (by assumption) | exact encYM_sz (by assumption)) (by first | omega | assumption | rfl | decide | exact Nat.le_refl _ | (simp only [size_ic, Value.cells]; omega) | (simp [encWs]; done) | (simp; omega) | simp | exact encYA_sz (by assumption) | exact encYT_sz (by assumption) | exact encYM_sz (by assumption)) (by first | exact oneCell_ic | assumption | exact one_Ws2 _ | exact one_YA2 _ | exact one_YSl2 _ | exact one_YM2 _ | exact one_YT2 _ | exact one_L2 _) ?_
        refine WO_nil ?_
        refine thn_normal ?_
        refine W_seqJ (fun ρ w' => ∃ b6 s1 s2 s3, Fr [(0, .pointer (some ⟨S, 0, none⟩)), (2, .pointer (some ⟨b2, 0, none⟩)), (3, .pointer (some ⟨b3, 0, none⟩)), (4, .int .i64 i), (5, .pointer (some ⟨b5, 0, none⟩)), (6, .pointer (some ⟨b6, 0, none⟩)), (39, .slice (some ⟨bs, 0, none⟩) n cp), (40, .int .i64 n), (41, .int .i64 i)] ρ ∧ Ext w30 w' ∧ w30.heap.size ≤ b6 ∧ b5 ≠ b6 ∧ Hb w' b5 (.cells (encYA x2).toArray 104 (0, 0)) ∧ Hb w' b6 (.cells (encYA ⟨x2.addr, s1, s2, s3, (none, 0, 0)⟩).toArray 104 (0, 0)) ∧ NN w' s1 y2.nonce ∧ NN w' s2 y2.bal ∧ PB w' s3 y2.code) ?_ ?_
        · skip
          refine W_drawF [false, false, false, false, true, false, false, true, false, false, true, false, true, false] [12] [0, 1, 2, 3, 4, 5, 6, 7, 8, 9, 10, 11, 13] hmix (by kernel_rfl) rfl rfl rfl ?_
          refine F_q (i := 0) rfl (by kernel_rfl) ?_
          refine WH_p (PS_fieldAddr 0 Hvac.runUnderlying104 rfl Hvac.sizeOf25 rfl rfl) rfl ?_
          refine WH_nil ?_
          refine F_q (i := 1) rfl (by kernel_rfl) ?_
          refine WH_loadA _ Hvac.isAgg25 Hvac.sizeOf25 rfl (Hb.h (by repeat (first | assumption | exact Hb.newY _ _ | refine Hb.alloc ?_ | refine Hb.drew ?_ | refine Hb.ext (by assumption) ?_ | exact Hb.setSameL (by first | omega | (simp only [size_alloc, size_setB, size_drew]; omega)) | exact Hb.setSame (by assumption) | refine Hb.set (by first | omega | (simp only [size_alloc, size_setB, size_drew]; omega)) ?_ ))) (by first | omega | assumption | rfl | decide | exact Nat.le_refl _ | (simp only [size_ic, Value.cells]; omega) | (simp [encWs]; done) | (simp; omega) | simp | exact encYA_sz (by assumption) | exact encYT_sz (by assumption) | exact encYM_sz (by assumption)) (Xt.h (by first | assumption | exact Xt.whole rfl rfl | exact Xt.whole rfl (by assumption) | exact Xt.whole rfl (by simp only [size_ic, Value.cells]; omega) | exact ⟨rfl⟩)) ?_
          refine WH_nil ?_
          refine F_q (i := 2) rfl (by kernel_rfl) ?_
          refine WH_p (PS_fieldAddr 20 Hvac.runUnderlying104 rfl Hvac.sizeOf92 rfl rfl) rfl ?_
          refine WH_nil ?_
          refine F_q (i := 3) rfl (by kernel_rfl) ?_
          refine WH_load (.slice _ _ _) Hvac.isAgg92 rfl (Hb.h (by repeat (first | assumption | exact Hb.newY _ _ | refine Hb.alloc ?_ | refine Hb.drew ?_ | refine Hb.ext (by assumption) ?_ | exact Hb.setSameL (by first | omega | (simp only [size_alloc, size_setB, size_drew]; omega)) | exact Hb.setSame (by assumption) | refine Hb.set (by first | omega | (simp only [size_alloc, size_setB, size_drew]; omega)) ?_ ))) (Ce.h (by first | assumption | exact ⟨rfl⟩)) ?_
          refine WH_nil ?_
          refine F_fork1 (i := 4) rfl rfl ?_ ?_
          · refine WH_call Hvac.call164 (by rfl) (Ret.mono (yNatOf_spec _ (OmB.ext hO (by repeat (first | assumption | exact Ext.refl _ | refine Ext.alloc ?_ _ | refine Ext.drew ?_ | refine Ext.setB ?_ (by first | omega | (simp only [size_alloc, size_setB, size_drew]; omega)) _ | exact Ext.trans (by assumption) (by assumption) | refine Ext.trans ?_ (by assumption)))) _ _ _ _ (by first | exact NN.nil _ | assumption | exact NN.ext (by assumption) (by repeat (first | assumption | exact Ext.refl _ | refine Ext.alloc ?_ _ | refine Ext.drew ?_ | refine Ext.setB ?_ (by first | omega | (simp only [size_alloc, size_setB, size_drew]; omega)) _ | exact Ext.trans (by assumption) (by assumption) | refine Ext.trans ?_ (by assumption)))) (by first | assumption | omega | (rw [sz_zero]; omega))) ?_)
            rintro _ w164_9 ⟨hE164_9, s164_9, rfl, hN164_9⟩
            refine ⟨fun _ => (by repeat (first | assumption | exact Ext.refl _ | refine Ext.alloc ?_ _ | refine Ext.drew ?_ | refine Ext.setB ?_ (by first | omega | (simp only [size_alloc, size_setB, size_drew]; omega)) _ | exact Ext.trans (by assumption) (by assumption) | refine Ext.trans ?_ (by assumption))), ?_⟩
            have hz164_9 := hE164_9.1
            try simp only [size_alloc, size_setB, size_drew] at hz164_9
            refine WH_nil ?_
            refine F_q (i := 5) rfl (by kernel_rfl) ?_
            refine WH_p (PS_fieldAddr 21 Hvac.runUnderlying104 rfl Hvac.sizeOf92 rfl rfl) rfl ?_
            refine WH_nil ?_
            refine F_q (i := 6) rfl (by kernel_rfl) ?_
            refine WH_load (.slice _ _ _) Hvac.isAgg92 rfl (Hb.h (by repeat (first | assumption | exact Hb.newY _ _ | refine Hb.alloc ?_ | refine Hb.drew ?_ | refine Hb.ext (by assumption) ?_ | exact Hb.setSameL (by first | omega | (simp only [size_alloc, size_setB, size_drew]; omega)) | exact Hb.setSame (by assumption) | refine Hb.set (by first | omega | (simp only [size_alloc, size_setB, size_drew]; omega)) ?_ ))) (Ce.h (by first | assumption | exact ⟨rfl⟩)) ?_
            refine WH_nil ?_
            refine F_fork1 (i := 7) rfl rfl ?_ ?_
            · refine WH_call Hvac.call164 (by rfl) (Ret.mono (yNatOf_spec _ (OmB.ext hO (by repeat (first | assumption | exact Ext.refl _ | refine Ext.alloc ?_ _ | refine Ext.drew ?_ | refine Ext.setB ?_ (by first | omega | (simp only [size_alloc, size_setB, size_drew]; omega)) _ | exact Ext.trans (by assumption) (by assumption) | refine Ext.trans ?_ (by assumption)))) _ _ _ _ (by first | exact NN.nil _ | assumption | exact NN.ext (by assumption) (by repeat (first | assumption | exact Ext.refl _ | refine Ext.alloc ?_ _ | refine Ext.drew ?_ | refine Ext.setB ?_ (by first | omega | (simp only [size_alloc, size_setB, size_drew]; omega)) _ | exact Ext.trans (by assumption) (by assumption) | refine Ext.trans ?_ (by assumption)))) (by first | assumption | omega | (rw [sz_zero]; omega))) ?_)
              rintro _ w164_10 ⟨hE164_10, s164_10, rfl, hN164_10⟩
              refine ⟨fun _ => (by repeat (first | assumption | exact Ext.refl _ | refine Ext.alloc ?_ _ | refine Ext.drew ?_ | refine Ext.setB ?_ (by first | omega | (simp only [size_alloc, size_setB, size_drew]; omega)) _ | exact Ext.trans (by assumption) (by assumption) | refine Ext.trans ?_ (by assumption))), ?_⟩
              have hz164_10 := hE164_10.1
              try simp only [size_alloc, size_setB, size_drew] at hz164_10
              refine WH_nil ?_
              refine F_q (i := 8) rfl (by kernel_rfl) ?_
              refine WH_p (PS_fieldAddr 22 Hvac.runUnderlying104 rfl Hvac.sizeOf32 rfl rfl) rfl ?_
              refine WH_nil ?_
              refine F_q (i := 9) rfl (by kernel_rfl) ?_
              refine WH_load (.slice _ _ _) Hvac.isAgg32 rfl (Hb.h (by repeat (first | assumption | exact Hb.newY _ _ | refine Hb.alloc ?_ | refine Hb.drew ?_ | refine Hb.ext (by assumption) ?_ | exact Hb.setSameL (by first | omega | (simp only [size_alloc, size_setB, size_drew]; omega)) | exact Hb.setSame (by assumption) | refine Hb.set (by first | omega | (simp only [size_alloc, size_setB, size_drew]; omega)) ?_ ))) (Ce.h (by first | assumption | exact ⟨rfl⟩)) ?_
              refine WH_nil ?_
              refine F_fork1 (i := 10) rfl rfl ?_ ?_
              · refine WH_call Hvac.call31 (by rfl) (Ret.mono (yBytesOf_spec _ (OmB.ext hO (by repeat (first | assumption | exact Ext.refl _ | refine Ext.alloc ?_ _ | refine Ext.drew ?_ | refine Ext.setB ?_ (by first | omega | (simp only [size_alloc, size_setB, size_drew]; omega)) _ | exact Ext.trans (by assumption) (by assumption) | refine Ext.trans ?_ (by assumption)))) _ _ _ _ (by first | assumption | exact AB.ext (by assumption) (by repeat (first | assumption | exact Ext.refl _ | refine Ext.alloc ?_ _ | refine Ext.drew ?_ | refine Ext.setB ?_ (by first | omega | (simp only [size_alloc, size_setB, size_drew]; omega)) _ | exact Ext.trans (by assumption) (by assumption) | refine Ext.trans ?_ (by assumption))) | exact PB.ab (by assumption) | exact PB.ab (PB.ext (by assumption) (by repeat (first | assumption | exact Ext.refl _ | refine Ext.alloc ?_ _ | refine Ext.drew ?_ | refine Ext.setB ?_ (by first | omega | (simp only [size_alloc, size_setB, size_drew]; omega)) _ | exact Ext.trans (by assumption) (by assumption) | refine Ext.trans ?_ (by assumption))))) (by omega)) ?_)
                rintro _ w31_11 ⟨hE31_11, s31_11, rfl, hN31_11⟩
                refine ⟨fun _ => (by repeat (first | assumption | exact Ext.refl _ | refine Ext.alloc ?_ _ | refine Ext.drew ?_ | refine Ext.setB ?_ (by first | omega | (simp only [size_alloc, size_setB, size_drew]; omega)) _ | exact Ext.trans (by assumption) (by assumption) | refine Ext.trans ?_ (by assumption))), ?_⟩
                have hz31_11 := hE31_11.1
                try simp only [size_alloc, size_setB, size_drew] at hz31_11
                refine WH_nil ?_
                refine F_q (i := 11) rfl (by kernel_rfl) ?_
                refine WH_p (PS_b104_0123 (A := x2.addr) rfl hxl2 rfl rfl rfl) rfl ?_
                refine WH_nil ?_
                refine F_fork1B (i := 13) (by kernel_rfl) rfl ?_
                · refine WH_allocG Hvac.zeroValue104 ?_
                  intro b6 v6 hg6 hE6 hH6 hl6
                  try simp only [size_alloc, size_setB, size_drew] at hg6
                  have hzz6 := hE6.1
                  try simp only [size_alloc, size_setB, size_drew] at hzz6
                  replace hH6 : Hb v6 b6 (.cells ((encYA (ac0 (List.replicate 20 0))).toArray) 104 (0, 0)) := hH6
                  refine ⟨fun _ => (by repeat (first | assumption | exact Ext.refl _ | refine Ext.alloc ?_ _ | refine Ext.drew ?_ | refine Ext.setB ?_ (by first | omega | (simp only [size_alloc, size_setB, size_drew]; omega)) _ | exact Ext.trans (by assumption) (by assumption) | refine Ext.trans ?_ (by assumption))), ?_⟩
                  refine WH_nil ?_
                  refine F_q (i := 13) rfl (by kernel_rfl) ?_
                  first | refine WH_storeW Hvac.sizeOf104 rfl (v := .agg _) rfl (Hb.h (by repeat (first | assumption | exact Hb.newY _ _ | refine Hb.alloc ?_ | refine Hb.drew ?_ | refine Hb.ext (by assumption) ?_ | exact Hb.setSameL (by first | omega | (simp only [size_alloc, size_setB, size_drew]; omega)) | exact Hb.setSame (by assumption) | refine Hb.set (by first | omega | (simp only [size_alloc, size_setB, size_drew]; omega)) ?_ ))) rfl (by first | omega | assumption | rfl | decide | exact Nat.le_refl _ | (simp only [size_ic, Value.cells]; omega) | (simp [encWs]; done) | (simp; omega) | simp | exact encYA_sz (by assumption) | exact encYT_sz (by assumption) | exact encYM_sz (by assumption)) (by first | omega | assumption | rfl | decide | exact Nat.le_refl _ | (simp only [size_ic, Value.cells]; omega) | (simp [encWs]; done) | (simp; omega) | simp | exact encYA_sz (by assumption) | exact encYT_sz (by assumption) | exact encYM_sz (by assumption)) (by first | exact oneCell_ic | assumption | exact one_Ws2 _ | exact one_YA2 _ | exact one_YSl2 _ | exact one_YM2 _ | exact one_YT2 _ | exact one_L2 _) (fun h => by cases h) ?_ | refine WH_store Hvac.sizeOf104 rfl (v := .agg _) rfl (Hb.h (by repeat (first | assumption | exact Hb.newY _ _ | refine Hb.alloc ?_ | refine Hb.drew ?_ | refine Hb.ext (by assumption) ?_ | exact Hb.setSameL (by first | omega | (simp only [size_alloc, size_setB, size_drew]; omega)) | exact Hb.setSame (by assumption) | refine Hb.set (by first | omega | (simp only [size_alloc, size_setB, size_drew]; omega)) ?_ ))) (by first | omega | assumption | rfl | decide | exact Nat.le_refl _ | (simp only [size_ic, Value.cells]; omega) | (simp [encWs]; done) | (simp; omega) | simp | exact encYA_sz (by assumption) | exact encYT_sz (by assumption) | exact encYM_sz (by assumption)) (by first | omega | assumption | rfl | decide | exact Nat.le_refl _ | (simp only [size_ic, Value.cells]; omega) | (simp [encWs]; done) | (simp; omega) | simp | exact encYA_sz (by assumption) | exact encYT_sz (by assumption) | exact encYM_sz (by assumption)) (by first | exact oneCell_ic | assumption | exact one_Ws2 _ | exact one_YA2 _ | exact one_YSl2 _ | exact one_YM2 _ | exact one_YT2 _ | exact one_L2 _) (fun h => by cases h) ?_
                  refine WH_nil ?_
                  refine F_end ?_
                  refine thn_normal ?_
                  exact ⟨b6, _, _, _, ⟨rfl, rfl, rfl, rfl, rfl, rfl, rfl, rfl, rfl, trivial⟩, (by repeat (first | assumption | exact Ext.refl _ | refine Ext.alloc ?_ _ | refine Ext.drew ?_ | refine Ext.setB ?_ (by first | omega | (simp only [size_alloc, size_setB, size_drew]; omega)) _ | exact Ext.trans (by assumption) (by assumption) | refine Ext.trans ?_ (by assumption))), by omega, by omega, Hb.mk (Hb.h (by repeat (first | assumption | exact Hb.newY _ _ | refine Hb.alloc ?_ | refine Hb.drew ?_ | refine Hb.ext (by assumption) ?_ | exact Hb.setSameL (by first | omega | (simp only [size_alloc, size_setB, size_drew]; omega)) | exact Hb.setSame (by assumption) | refine Hb.set (by first | omega | (simp only [size_alloc, size_setB, size_drew]; omega)) ?_ ))), Hb.mk (Hb.h (by repeat (first | assumption | exact Hb.newY _ _ | refine Hb.alloc ?_ | refine Hb.drew ?_ | refine Hb.ext (by assumption) ?_ | exact Hb.setSameL (by first | omega | (simp only [size_alloc, size_setB, size_drew]; omega)) | exact Hb.setSame (by assumption) | refine Hb.set (by first | omega | (simp only [size_alloc, size_setB, size_drew]; omega)) ?_ ))), NN.kt (by first | exact NN.nil _ | assumption | exact NN.ext (by assumption) (by repeat (first | assumption | exact Ext.refl _ | refine Ext.alloc ?_ _ | refine Ext.drew ?_ | refine Ext.setB ?_ (by first | omega | (simp only [size_alloc, size_setB, size_drew]; omega)) _ | exact Ext.trans (by assumption) (by assumption) | refine Ext.trans ?_ (by assumption)))) (KT.setB (Hb.mk (Hb.h (by repeat (first | assumption | exact Hb.newY _ _ | refine Hb.alloc ?_ | refine Hb.drew ?_ | refine Hb.ext (by assumption) ?_ | exact Hb.setSameL (by first | omega | (simp only [size_alloc, size_setB, size_drew]; omega)) | exact Hb.setSame (by assumption) | refine Hb.set (by first | omega | (simp only [size_alloc, size_setB, size_drew]; omega)) ?_ )))) (by decide)), NN.kt (by first | exact NN.nil _ | assumption | exact NN.ext (by assumption) (by repeat (first | assumption | exact Ext.refl _ | refine Ext.alloc ?_ _ | refine Ext.drew ?_ | refine Ext.setB ?_ (by first | omega | (simp only [size_alloc, size_setB, size_drew]; omega)) _ | exact Ext.trans (by assumption) (by assumption) | refine Ext.trans ?_ (by assumption)))) (KT.setB (Hb.mk (Hb.h (by repeat (first | assumption | exact Hb.newY _ _ | refine Hb.alloc ?_ | refine Hb.drew ?_ | refine Hb.ext (by assumption) ?_ | exact Hb.setSameL (by first | omega | (simp only [size_alloc, size_setB, size_drew]; omega)) | exact Hb.setSame (by assumption) | refine Hb.set (by first | omega | (simp only [size_alloc, size_setB, size_drew]; omega)) ?_ )))) (by decide)), PB.kt (by first | exact PB.nil _ | assumption | exact PB.ext (by assumption) (by repeat (first | assumption | exact Ext.refl _ | refine Ext.alloc ?_ _ | refine Ext.drew ?_ | refine Ext.setB ?_ (by first | omega | (simp only [size_alloc, size_setB, size_drew]; omega)) _ | exact Ext.trans (by assumption) (by assumption) | refine Ext.trans ?_ (by assumption)))) (KT.setB (Hb.mk (Hb.h (by repeat (first | assumption | exact Hb.newY _ _ | refine Hb.alloc ?_ | refine Hb.drew ?_ | refine Hb.ext (by assumption) ?_ | exact Hb.setSameL (by first | omega | (simp only [size_alloc, size_setB, size_drew]; omega)) | exact Hb.setSame (by assumption) | refine Hb.set (by first | omega | (simp only [size_alloc, size_setB, size_drew]; omega)) ?_ )))) (by decide))⟩
              · refine WH_allocG Hvac.zeroValue104 ?_
                intro b6 v6 hg6 hE6 hH6 hl6
                try simp only [size_alloc, size_setB, size_drew] at hg6
                have hzz6 := hE6.1
                try simp only [size_alloc, size_setB, size_drew] at hzz6
                replace hH6 : Hb v6 b6 (.cells ((encYA (ac0 (List.replicate 20 0))).toArray) 104 (0, 0)) := hH6
                refine ⟨fun _ => (by repeat (first | assumption | exact Ext.refl _ | refine Ext.alloc ?_ _ | refine Ext.drew ?_ | refine Ext.setB ?_ (by first | omega | (simp only [size_alloc, size_setB, size_drew]; omega)) _ | exact Ext.trans (by assumption) (by assumption) | refine Ext.trans ?_ (by assumption))), ?_⟩
                refine WH_nil ?_
                refine F_q (i := 10) rfl (by kernel_rfl) ?_
                refine WH_call Hvac.call31 (by rfl) (Ret.mono (yBytesOf_spec _ (OmB.ext hO (by repeat (first | assumption | exact Ext.refl _ | refine Ext.alloc ?_ _ | refine Ext.drew ?_ | refine Ext.setB ?_ (by first | omega | (simp only [size_alloc, size_setB, size_drew]; omega)) _ | exact Ext.trans (by assumption) (by assumption) | refine Ext.trans ?_ (by assumption)))) _ _ _ _ (by first | assumption | exact AB.ext (by assumption) (by repeat (first | assumption | exact Ext.refl _ | refine Ext.alloc ?_ _ | refine Ext.drew ?_ | refine Ext.setB ?_ (by first | omega | (simp only [size_alloc, size_setB, size_drew]; omega)) _ | exact Ext.trans (by assumption) (by assumption) | refine Ext.trans ?_ (by assumption))) | exact PB.ab (by assumption) | exact PB.ab (PB.ext (by assumption) (by repeat (first | assumption | exact Ext.refl _ | refine Ext.alloc ?_ _ | refine Ext.drew ?_ | refine Ext.setB ?_ (by first | omega | (simp only [size_alloc, size_setB, size_drew]; omega)) _ | exact Ext.trans (by assumption) (by assumption) | refine Ext.trans ?_ (by assumption))))) (by omega)) ?_)
                rintro _ w31_12 ⟨hE31_12, s31_12, rfl, hN31_12⟩
                refine ⟨fun _ => (by repeat (first | assumption | exact Ext.refl _ | refine Ext.alloc ?_ _ | refine Ext.drew ?_ | refine Ext.setB ?_ (by first | omega | (simp only [size_alloc, size_setB, size_drew]; omega)) _ | exact Ext.trans (by assumption) (by assumption) | refine Ext.trans ?_ (by assumption))), ?_⟩
                have hz31_12 := hE31_12.1
                try simp only [size_alloc, size_setB, size_drew] at hz31_12
                refine WH_nil ?_
                refine F_q (i := 11) rfl (by kernel_rfl) ?_
                refine WH_p (PS_b104_0123 (A := x2.addr) rfl hxl2 rfl rfl rfl) rfl ?_
                refine WH_nil ?_
                refine F_q (i := 13) rfl (by kernel_rfl) ?_
                first | refine WH_storeW Hvac.sizeOf104 rfl (v := .agg _) rfl (Hb.h (by repeat (first | assumption | exact Hb.newY _ _ | refine Hb.alloc ?_ | refine Hb.drew ?_ | refine Hb.ext (by assumption) ?_ | exact Hb.setSameL (by first | omega | (simp only [size_alloc, size_setB, size_drew]; omega)) | exact Hb.setSame (by assumption) | refine Hb.set (by first | omega | (simp only [size_alloc, size_setB, size_drew]; omega)) ?_ ))) rfl (by first | omega | assumption | rfl | decide | exact Nat.le_refl _ | (simp only [size_ic, Value.cells]; omega) | (simp [encWs]; done) | (simp; omega) | simp | exact encYA_sz (by assumption) | exact encYT_sz (by assumption) | exact encYM_sz (by assumption)) (by first | omega | assumption | rfl | decide | exact Nat.le_refl _ | (simp only [size_ic, Value.cells]; omega) | (simp [encWs]; done) | (simp; omega) | simp | exact encYA_sz (by assumption) | exact encYT_sz (by assumption) | exact encYM_sz (by assumption)) (by first | exact oneCell_ic | assumption | exact one_Ws2 _ | exact one_YA2 _ | exact one_YSl2 _ | exact one_YM2 _ | exact one_YT2 _ | exact one_L2 _) (fun h => by cases h) ?_ | refine WH_store Hvac.sizeOf104 rfl (v := .agg _) rfl (Hb.h (by repeat (first | assumption | exact Hb.newY _ _ | refine Hb.alloc ?_ | refine Hb.drew ?_ | refine Hb.ext (by assumption) ?_ | exact Hb.setSameL (by first | omega | (simp only [size_alloc, size_setB, size_drew]; omega)) | exact Hb.setSame (by assumption) | refine Hb.set (by first | omega | (simp only [size_alloc, size_setB, size_drew]; omega)) ?_ ))) (by first | omega | assumption | rfl | decide | exact Nat.le_refl _ | (simp only [size_ic, Value.cells]; omega) | (simp [encWs]; done) | (simp; omega) | simp | exact encYA_sz (by assumption) | exact encYT_sz (by assumption) | exact encYM_sz (by assumption)) (by first | omega | assumption | rfl | decide | exact Nat.le_refl _ | (simp only [size_ic, Value.cells]; omega) | (simp [encWs]; done) | (simp; omega) | simp | exact encYA_sz (by assumption) | exact encYT_sz (by assumption) | exact encYM_sz (by assumption)) (by first | exact oneCell_ic | assumption | exact one_Ws2 _ | exact one_YA2 _ | exact one_YSl2 _ | exact one_YM2 _ | exact one_YT2 _ | exact one_L2 _) (fun h => by cases h) ?_
                refine WH_nil ?_
                refine F_end ?_
                refine thn_normal ?_
                exact ⟨b6, _, _, _, ⟨rfl, rfl, rfl, rfl, rfl, rfl, rfl, rfl, rfl, trivial⟩, (by repeat (first | assumption | exact Ext.refl _ | refine Ext.alloc ?_ _ | refine Ext.drew ?_ | refine Ext.setB ?_ (by first | omega | (simp only [size_alloc, size_setB, size_drew]; omega)) _ | exact Ext.trans (by assumption) (by assumption) | refine Ext.trans ?_ (by assumption))), by omega, by omega, Hb.mk (Hb.h (by repeat (first | assumption | exact Hb.newY _ _ | refine Hb.alloc ?_ | refine Hb.drew ?_ | refine Hb.ext (by assumption) ?_ | exact Hb.setSameL (by first | omega | (simp only [size_alloc, size_setB, size_drew]; omega)) | exact Hb.setSame (by assumption) | refine Hb.set (by first | omega | (simp only [size_alloc, size_setB, size_drew]; omega)) ?_ ))), Hb.mk (Hb.h (by repeat (first | assumption | exact Hb.newY _ _ | refine Hb.alloc ?_ | refine Hb.drew ?_ | refine Hb.ext (by assumption) ?_ | exact Hb.setSameL (by first | omega | (simp only [size_alloc, size_setB, size_drew]; omega)) | exact Hb.setSame (by assumption) | refine Hb.set (by first | omega | (simp only [size_alloc, size_setB, size_drew]; omega)) ?_ ))), NN.kt (by first | exact NN.nil _ | assumption | exact NN.ext (by assumption) (by repeat (first | assumption | exact Ext.refl _ | refine Ext.alloc ?_ _ | refine Ext.drew ?_ | refine Ext.setB ?_ (by first | omega | (simp only [size_alloc, size_setB, size_drew]; omega)) _ | exact Ext.trans (by assumption) (by assumption) | refine Ext.trans ?_ (by assumption)))) (KT.setB (Hb.mk (Hb.h (by repeat (first | assumption | exact Hb.newY _ _ | refine Hb.alloc ?_ | refine Hb.drew ?_ | refine Hb.ext (by assumption) ?_ | exact Hb.setSameL (by first | omega | (simp only [size_alloc, size_setB, size_drew]; omega)) | exact Hb.setSame (by assumption) | refine Hb.set (by first | omega | (simp only [size_alloc, size_setB, size_drew]; omega)) ?_ )))) (by decide)), NN.kt (by first | exact NN.nil _ | assumption | exact NN.ext (by assumption) (by repeat (first | assumption | exact Ext.refl _ | refine Ext.alloc ?_ _ | refine Ext.drew ?_ | refine Ext.setB ?_ (by first | omega | (simp only [size_alloc, size_setB, size_drew]; omega)) _ | exact Ext.trans (by assumption) (by assumption) | refine Ext.trans ?_ (by assumption)))) (KT.setB (Hb.mk (Hb.h (by repeat (first | assumption | exact Hb.newY _ _ | refine Hb.alloc ?_ | refine Hb.drew ?_ | refine Hb.ext (by assumption) ?_ | exact Hb.setSameL (by first | omega | (simp only [size_alloc, size_setB, size_drew]; omega)) | exact Hb.setSame (by assumption) | refine Hb.set (by first | omega | (simp only [size_alloc, size_setB, size_drew]; omega)) ?_ )))) (by decide)), PB.kt (by first | exact PB.nil _ | assumption | exact PB.ext (by assumption) (by repeat (first | assumption | exact Ext.refl _ | refine Ext.alloc ?_ _ | refine Ext.drew ?_ | refine Ext.setB ?_ (by first | omega | (simp only [size_alloc, size_setB, size_drew]; omega)) _ | exact Ext.trans (by assumption) (by assumption) | refine Ext.trans ?_ (by assumption)))) (KT.setB (Hb.mk (Hb.h (by repeat (first | assumption | exact Hb.newY _ _ | refine Hb.alloc ?_ | refine Hb.drew ?_ | refine Hb.ext (by assumption) ?_ | exact Hb.setSameL (by first | omega | (simp only [size_alloc, size_setB, size_drew]; omega)) | exact Hb.setSame (by assumption) | refine Hb.set (by first | omega | (simp only [size_alloc, size_setB, size_drew]; omega)) ?_ )))) (by decide))⟩
            · refine WH_allocG Hvac.zeroValue104 ?_
              intro b6 v6 hg6 hE6 hH6 hl6
              try simp only [size_alloc, size_setB, size_drew] at hg6
              have hzz6 := hE6.1
              try simp only [size_alloc, size_setB, size_drew] at hzz6
              replace hH6 : Hb v6 b6 (.cells ((encYA (ac0 (List.replicate 20 0))).toArray) 104 (0, 0)) := hH6
              refine ⟨fun _ => (by repeat (first | assumption | exact Ext.refl _ | refine Ext.alloc ?_ _ | refine Ext.drew ?_ | refine Ext.setB ?_ (by first | omega | (simp only [size_alloc, size_setB, size_drew]; omega)) _ | exact Ext.trans (by assumption) (by assumption) | refine Ext.trans ?_ (by assumption))), ?_⟩
              refine WH_nil ?_
              refine F_q (i := 7) rfl (by kernel_rfl) ?_
              refine WH_call Hvac.call164 (by rfl) (Ret.mono (yNatOf_spec _ (OmB.ext hO (by repeat (first | assumption | exact Ext.refl _ | refine Ext.alloc ?_ _ | refine Ext.drew ?_ | refine Ext.setB ?_ (by first | omega | (simp only [size_alloc, size_setB, size_drew]; omega)) _ | exact Ext.trans (by assumption) (by assumption) | refine Ext.trans ?_ (by assumption)))) _ _ _ _ (by first | exact NN.nil _ | assumption | exact NN.ext (by assumption) (by repeat (first | assumption | exact Ext.refl _ | refine Ext.alloc ?_ _ | refine Ext.drew ?_ | refine Ext.setB ?_ (by first | omega | (simp only [size_alloc, size_setB, size_drew]; omega)) _ | exact Ext.trans (by assumption) (by assumption) | refine Ext.trans ?_ (by assumption)))) (by first | assumption | omega | (rw [sz_zero]; omega))) ?_)
              rintro _ w164_13 ⟨hE164_13, s164_13, rfl, hN164_13⟩
              refine ⟨fun _ => (by repeat (first | assumption | exact Ext.refl _ | refine Ext.alloc ?_ _ | refine Ext.drew ?_ | refine Ext.setB ?_ (by first | omega | (simp only [size_alloc, size_setB, size_drew]; omega)) _ | exact Ext.trans (by assumption) (by assumption) | refine Ext.trans ?_ (by assumption))), ?_⟩
              have hz164_13 := hE164_13.1
              try simp only [size_alloc, size_setB, size_drew] at hz164_13
              refine WH_nil ?_
              refine F_q (i := 8) rfl (by kernel_rfl) ?_
              refine WH_p (PS_fieldAddr 22 Hvac.runUnderlying104 rfl Hvac.sizeOf32 rfl rfl) rfl ?_
              refine WH_nil ?_
              refine F_q (i := 9) rfl (by kernel_rfl) ?_
              refine WH_load (.slice _ _ _) Hvac.isAgg32 rfl (Hb.h (by repeat (first | assumption | exact Hb.newY _ _ | refine Hb.alloc ?_ | refine Hb.drew ?_ | refine Hb.ext (by assumption) ?_ | exact Hb.setSameL (by first | omega | (simp only [size_alloc, size_setB, size_drew]; omega)) | exact Hb.setSame (by assumption) | refine Hb.set (by first | omega | (simp only [size_alloc, size_setB, size_drew]; omega)) ?_ ))) (Ce.h (by first | assumption | exact ⟨rfl⟩)) ?_
              refine WH_nil ?_
              refine F_q (i := 10) rfl (by kernel_rfl) ?_
              refine WH_call Hvac.call31 (by rfl) (Ret.mono (yBytesOf_spec _ (OmB.ext hO (by repeat (first | assumption | exact Ext.refl _ | refine Ext.alloc ?_ _ | refine Ext.drew ?_ | refine Ext.setB ?_ (by first | omega | (simp only [size_alloc, size_setB, size_drew]; omega)) _ | exact Ext.trans (by assumption) (by assumption) | refine Ext.trans ?_ (by assumption)))) _ _ _ _ (by first | assumption | exact AB.ext (by assumption) (by repeat (first | assumption | exact Ext.refl _ | refine Ext.alloc ?_ _ | refine Ext.drew ?_ | refine Ext.setB ?_ (by first | omega | (simp only [size_alloc, size_setB, size_drew]; omega)) _ | exact Ext.trans (by assumption) (by assumption) | refine Ext.trans ?_ (by assumption))) | exact PB.ab (by assumption) | exact PB.ab (PB.ext (by assumption) (by repeat (first | assumption | exact Ext.refl _ | refine Ext.alloc ?_ _ | refine Ext.drew ?_ | refine Ext.setB ?_ (by first | omega | (simp only [size_alloc, size_setB, size_drew]; omega)) _ | exact Ext.trans (by assumption) (by assumption) | refine Ext.trans ?_ (by assumption))))) (by omega)) ?_)
              rintro _ w31_14 ⟨hE31_14, s31_14, rfl, hN31_14⟩
              refine ⟨fun _ => (by repeat (first | assumption | exact Ext.refl _ | refine Ext.alloc ?_ _ | refine Ext.drew ?_ | refine Ext.setB ?_ (by first | omega | (simp only [size_alloc, size_setB, size_drew]; omega)) _ | exact Ext.trans (by assumption) (by assumption) | refine Ext.trans ?_ (by assumption))), ?_⟩
              have hz31_14 := hE31_14.1
              try simp only [size_alloc, size_setB, size_drew] at hz31_14
              refine WH_nil ?_
              refine F_q (i := 11) rfl (by kernel_rfl) ?_
              refine WH_p (PS_b104_0123 (A := x2.addr) rfl hxl2 rfl rfl rfl) rfl ?_
              refine WH_nil ?_
              refine F_q (i := 13) rfl (by kernel_rfl) ?_
              first | refine WH_storeW Hvac.sizeOf104 rfl (v := .agg _) rfl (Hb.h (by repeat (first | assumption | exact Hb.newY _ _ | refine Hb.alloc ?_ | refine Hb.drew ?_ | refine Hb.ext (by assumption) ?_ | exact Hb.setSameL (by first | omega | (simp only [size_alloc, size_setB, size_drew]; omega)) | exact Hb.setSame (by assumption) | refine Hb.set (by first | omega | (simp only [size_alloc, size_setB, size_drew]; omega)) ?_ ))) rfl (by first | omega | assumption | rfl | decide | exact Nat.le_refl _ | (simp only [size_ic, Value.cells]; omega) | (simp [encWs]; done) | (simp; omega) | simp | exact encYA_sz (by assumption) | exact encYT_sz (by assumption) | exact encYM_sz (by assumption)) (by first | omega | assumption | rfl | decide | exact Nat.le_refl _ | (simp only [size_ic, Value.cells]; omega) | (simp [encWs]; done) | (simp; omega) | simp | exact encYA_sz (by assumption) | exact encYT_sz (by assumption) | exact encYM_sz (by assumption)) (by first | exact oneCell_ic | assumption | exact one_Ws2 _ | exact one_YA2 _ | exact one_YSl2 _ | exact one_YM2 _ | exact one_YT2 _ | exact one_L2 _) (fun h => by cases h) ?_ | refine WH_store Hvac.sizeOf104 rfl (v := .agg _) rfl (Hb.h (by repeat (first | assumption | exact Hb.newY _ _ | refine Hb.alloc ?_ | refine Hb.drew ?_ | refine Hb.ext (by assumption) ?_ | exact Hb.setSameL (by first | omega | (simp only [size_alloc, size_setB, size_drew]; omega)) | exact Hb.setSame (by assumption) | refine Hb.set (by first | omega | (simp only [size_alloc, size_setB, size_drew]; omega)) ?_ ))) (by first | omega | assumption | rfl | decide | exact Nat.le_refl _ | (simp only [size_ic, Value.cells]; omega) | (simp [encWs]; done) | (simp; omega) | simp | exact encYA_sz (by assumption) | exact encYT_sz (by assumption) | exact encYM_sz (by assumption)) (by first | omega | assumption | rfl | decide | exact Nat.le_refl _ | (simp only [size_ic, Value.cells]; omega) | (simp [encWs]; done) | (simp; omega) | simp | exact encYA_sz (by assumption) | exact encYT_sz (by assumption) | exact encYM_sz (by assumption)) (by first | exact oneCell_ic | assumption | exact one_Ws2 _ | exact one_YA2 _ | exact one_YSl2 _ | exact one_YM2 _ | exact one_YT2 _ | exact one_L2 _) (fun h => by cases h) ?_
              refine WH_nil ?_
              refine F_end ?_
              refine thn_normal ?_
              exact ⟨b6, _, _, _, ⟨rfl, rfl, rfl, rfl, rfl, rfl, rfl, rfl, rfl, trivial⟩, (by repeat (first | assumption | exact Ext.refl _ | refine Ext.alloc ?_ _ | refine Ext.drew ?_ | refine Ext.setB ?_ (by first | omega | (simp only [size_alloc, size_setB, size_drew]; omega)) _ | exact Ext.trans (by assumption) (by assumption) | refine Ext.trans ?_ (by assumption))), by omega, by omega, Hb.mk (Hb.h (by repeat (first | assumption | exact Hb.newY _ _ | refine Hb.alloc ?_ | refine Hb.drew ?_ | refine Hb.ext (by assumption) ?_ | exact Hb.setSameL (by first | omega | (simp only [size_alloc, size_setB, size_drew]; omega)) | exact Hb.setSame (by assumption) | refine Hb.set (by first | omega | (simp only [size_alloc, size_setB, size_drew]; omega)) ?_ ))), Hb.mk (Hb.h (by repeat (first | assumption | exact Hb.newY _ _ | refine Hb.alloc ?_ | refine Hb.drew ?_ | refine Hb.ext (by assumption) ?_ | exact Hb.setSameL (by first | omega | (simp only [size_alloc, size_setB, size_drew]; omega)) | exact Hb.setSame (by assumption) | refine Hb.set (by first | omega | (simp only [size_alloc, size_setB, size_drew]; omega)) ?_ ))), NN.kt (by first | exact NN.nil _ | assumption | exact NN.ext (by assumption) (by repeat (first | assumption | exact Ext.refl _ | refine Ext.alloc ?_ _ | refine Ext.drew ?_ | refine Ext.setB ?_ (by first | omega | (simp only [size_alloc, size_setB, size_drew]; omega)) _ | exact Ext.trans (by assumption) (by assumption) | refine Ext.trans ?_ (by assumption)))) (KT.setB (Hb.mk (Hb.h (by repeat (first | assumption | exact Hb.newY _ _ | refine Hb.alloc ?_ | refine Hb.drew ?_ | refine Hb.ext (by assumption) ?_ | exact Hb.setSameL (by first | omega | (simp only [size_alloc, size_setB, size_drew]; omega)) | exact Hb.setSame (by assumption) | refine Hb.set (by first | omega | (simp only [size_alloc, size_setB, size_drew]; omega)) ?_ )))) (by decide)), NN.kt (by first | exact NN.nil _ | assumption | exact NN.ext (by assumption) (by repeat (first | assumption | exact Ext.refl _ | refine Ext.alloc ?_ _ | refine Ext.drew ?_ | refine Ext.setB ?_ (by first | omega | (simp only [size_alloc, size_setB, size_drew]; omega)) _ | exact Ext.trans (by assumption) (by assumption) | refine Ext.trans ?_ (by assumption)))) (KT.setB (Hb.mk (Hb.h (by repeat (first | assumption | exact Hb.newY _ _ | refine Hb.alloc ?_ | refine Hb.drew ?_ | refine Hb.ext (by assumption) ?_ | exact Hb.setSameL (by first | omega | (simp only [size_alloc, size_setB, size_drew]; omega)) | exact Hb.setSame (by assumption) | refine Hb.set (by first | omega | (simp only [size_alloc, size_setB, size_drew]; omega)) ?_ )))) (by decide)), PB.kt (by first | exact PB.nil _ | assumption | exact PB.ext (by assumption) (by repeat (first | assumption | exact Ext.refl _ | refine Ext.alloc ?_ _ | refine Ext.drew ?_ | refine Ext.setB ?_ (by first | omega | (simp only [size_alloc, size_setB, size_drew]; omega)) _ | exact Ext.trans (by assumption) (by assumption) | refine Ext.trans ?_ (by assumption)))) (KT.setB (Hb.mk (Hb.h (by repeat (first | assumption | exact Hb.newY _ _ | refine Hb.alloc ?_ | refine Hb.drew ?_ | refine Hb.ext (by assumption) ?_ | exact Hb.setSameL (by first | omega | (simp only [size_alloc, size_setB, size_drew]; omega)) | exact Hb.setSame (by assumption) | refine Hb.set (by first | omega | (simp only [size_alloc, size_setB, size_drew]; omega)) ?_ )))) (by decide))⟩
          · refine WH_allocG Hvac.zeroValue104 ?_
            intro b6 v6 hg6 hE6 hH6 hl6
            try simp only [size_alloc, size_setB, size_drew] at hg6
            have hzz6 := hE6.1
            try simp only [size_alloc, size_setB, size_drew] at hzz6
            replace hH6 : Hb v6 b6 (.cells ((encYA (ac0 (List.replicate 20 0))).toArray) 104 (0, 0)) := hH6
            refine ⟨fun _ => (by repeat (first | assumption | exact Ext.refl _ | refine Ext.alloc ?_ _ | refine Ext.drew ?_ | refine Ext.setB ?_ (by first | omega | (simp only [size_alloc, size_setB, size_drew]; omega)) _ | exact Ext.trans (by assumption) (by assumption) | refine Ext.trans ?_ (by assumption))), ?_⟩
            refine WH_nil ?_
            refine F_q (i := 4) rfl (by kernel_rfl) ?_
            refine WH_call Hvac.call164 (by rfl) (Ret.mono (yNatOf_spec _ (OmB.ext hO (by repeat (first | assumption | exact Ext.refl _ | refine Ext.alloc ?_ _ | refine Ext.drew ?_ | refine Ext.setB ?_ (by first | omega | (simp only [size_alloc, size_setB, size_drew]; omega)) _ | exact Ext.trans (by assumption) (by assumption) | refine Ext.trans ?_ (by assumption)))) _ _ _ _ (by first | exact NN.nil _ | assumption | exact NN.ext (by assumption) (by repeat (first | assumption | exact Ext.refl _ | refine Ext.alloc ?_ _ | refine Ext.drew ?_ | refine Ext.setB ?_ (by first | omega | (simp only [size_alloc, size_setB, size_drew]; omega)) _ | exact Ext.trans (by assumption) (by assumption) | refine Ext.trans ?_ (by assumption)))) (by first | assumption | omega | (rw [sz_zero]; omega))) ?_)
            rintro _ w164_15 ⟨hE164_15, s164_15, rfl, hN164_15⟩
            refine ⟨fun _ => (by repeat (first | assumption | exact Ext.refl _ | refine Ext.alloc ?_ _ | refine Ext.drew ?_ | refine Ext.setB ?_ (by first | omega | (simp only [size_alloc, size_setB, size_drew]; omega)) _ | exact Ext.trans (by assumption) (by assumption) | refine Ext.trans ?_ (by assumption))), ?_⟩
            have hz164_15 := hE164_15.1
            try simp only [size_alloc, size_setB, size_drew] at hz164_15
            refine WH_nil ?_
            refine F_q (i := 5) rfl (by kernel_rfl) ?_
            refine WH_p (PS_fieldAddr 21 Hvac.runUnderlying104 rfl Hvac.sizeOf92 rfl rfl) rfl ?_
            refine WH_nil ?_
            refine F_q (i := 6) rfl (by kernel_rfl) ?_
            refine WH_load (.slice _ _ _) Hvac.isAgg92 rfl (Hb.h (by repeat (first | assumption | exact Hb.newY _ _ | refine Hb.alloc ?_ | refine Hb.drew ?_ | refine Hb.ext (by assumption) ?_ | exact Hb.setSameL (by first | omega | (simp only [size_alloc, size_setB, size_drew]; omega)) | exact Hb.setSame (by assumption) | refine Hb.set (by first | omega | (simp only [size_alloc, size_setB, size_drew]; omega)) ?_ ))) (Ce.h (by first | assumption | exact ⟨rfl⟩)) ?_
            refine WH_nil ?_
            refine F_q (i := 7) rfl (by kernel_rfl) ?_
            refine WH_call Hvac.call164 (by rfl) (Ret.mono (yNatOf_spec _ (OmB.ext hO (by repeat (first | assumption | exact Ext.refl _ | refine Ext.alloc ?_ _ | refine Ext.drew ?_ | refine Ext.setB ?_ (by first | omega | (simp only [size_alloc, size_setB, size_drew]; omega)) _ | exact Ext.trans (by assumption) (by assumption) | refine Ext.trans ?_ (by assumption)))) _ _ _ _ (by first | exact NN.nil _ | assumption | exact NN.ext (by assumption) (by repeat (first | assumption | exact Ext.refl _ | refine Ext.alloc ?_ _ | refine Ext.drew ?_ | refine Ext.setB ?_ (by first | omega | (simp only [size_alloc, size_setB, size_drew]; omega)) _ | exact Ext.trans (by assumption) (by assumption) | refine Ext.trans ?_ (by assumption)))) (by first | assumption | omega | (rw [sz_zero]; omega))) ?_)
            rintro _ w164_16 ⟨hE164_16, s164_16, rfl, hN164_16⟩
            refine ⟨fun _ => (by repeat (first | assumption | exact Ext.refl _ | refine Ext.alloc ?_ _ | refine Ext.drew ?_ | refine Ext.setB ?_ (by first | omega | (simp only [size_alloc, size_setB, size_drew]; omega)) _ | exact Ext.trans (by assumption) (by assumption) | refine Ext.trans ?_ (by assumption))), ?_⟩
            have hz164_16 := hE164_16.1
            try simp only [size_alloc, size_setB, size_drew] at hz164_16
            refine WH_nil ?_
            refine F_q (i := 8) rfl (by kernel_rfl) ?_
            refine WH_p (PS_fieldAddr 22 Hvac.runUnderlying104 rfl Hvac.sizeOf32 rfl rfl) rfl ?_
            refine WH_nil ?_
            refine F_q (i := 9) rfl (by kernel_rfl) ?_
            refine WH_load (.slice _ _ _) Hvac.isAgg32 rfl (Hb.h (by repeat (first | assumption | exact Hb.newY _ _ | refine Hb.alloc ?_ | refine Hb.drew ?_ | refine Hb.ext (by assumption) ?_ | exact Hb.setSameL (by first | omega | (simp only [size_alloc, size_setB, size_drew]; omega)) | exact Hb.setSame (by assumption) | refine Hb.set (by first | omega | (simp only [size_alloc, size_setB, size_drew]; omega)) ?_ ))) (Ce.h (by first | assumption | exact ⟨rfl⟩)) ?_
            refine WH_nil ?_
            refine F_q (i := 10) rfl (by kernel_rfl) ?_
            refine WH_call Hvac.call31 (by rfl) (Ret.mono (yBytesOf_spec _ (OmB.ext hO (by repeat (first | assumption | exact Ext.refl _ | refine Ext.alloc ?_ _ | refine Ext.drew ?_ | refine Ext.setB ?_ (by first | omega | (simp only [size_alloc, size_setB, size_drew]; omega)) _ | exact Ext.trans (by assumption) (by assumption) | refine Ext.trans ?_ (by assumption)))) _ _ _ _ (by first | assumption | exact AB.ext (by assumption) (by repeat (first | assumption | exact Ext.refl _ | refine Ext.alloc ?_ _ | refine Ext.drew ?_ | refine Ext.setB ?_ (by first | omega | (simp only [size_alloc, size_setB, size_drew]; omega)) _ | exact Ext.trans (by assumption) (by assumption) | refine Ext.trans ?_ (by assumption))) | exact PB.ab (by assumption) | exact PB.ab (PB.ext (by assumption) (by repeat (first | assumption | exact Ext.refl _ | refine Ext.alloc ?_ _ | refine Ext.drew ?_ | refine Ext.setB ?_ (by first | omega | (simp only [size_alloc, size_setB, size_drew]; omega)) _ | exact Ext.trans (by assumption) (by assumption) | refine Ext.trans ?_ (by assumption))))) (by omega)) ?_)
            rintro _ w31_17 ⟨hE31_17, s31_17, rfl, hN31_17⟩
            refine ⟨fun _ => (by repeat (first | assumption | exact Ext.refl _ | refine Ext.alloc ?_ _ | refine Ext.drew ?_ | refine Ext.setB ?_ (by first | omega | (simp only [size_alloc, size_setB, size_drew]; omega)) _ | exact Ext.trans (by assumption) (by assumption) | refine Ext.trans ?_ (by assumption))), ?_⟩
            have hz31_17 := hE31_17.1
            try simp only [size_alloc, size_setB, size_drew] at hz31_17
            refine WH_nil ?_
            refine F_q (i := 11) rfl (by kernel_rfl) ?_
            refine WH_p (PS_b104_0123 (A := x2.addr) rfl hxl2 rfl rfl rfl) rfl ?_
            refine WH_nil ?_
            refine F_q (i := 13) rfl (by kernel_rfl) ?_
            first | refine WH_storeW Hvac.sizeOf104 rfl (v := .agg _) rfl (Hb.h (by repeat (first | assumption | exact Hb.newY _ _ | refine Hb.alloc ?_ | refine Hb.drew ?_ | refine Hb.ext (by assumption) ?_ | exact Hb.setSameL (by first | omega | (simp only [size_alloc, size_setB, size_drew]; omega)) | exact Hb.setSame (by assumption) | refine Hb.set (by first | omega | (simp only [size_alloc, size_setB, size_drew]; omega)) ?_ ))) rfl (by first | omega | assumption | rfl | decide | exact Nat.le_refl _ | (simp only [size_ic, Value.cells]; omega) | (simp [encWs]; done) | (simp; omega) | simp | exact encYA_sz (by assumption) | exact encYT_sz (by assumption) | exact encYM_sz (by assumption)) (by first | omega | assumption | rfl | decide | exact Nat.le_refl _ | (simp only [size_ic, Value.cells]; omega) | (simp [encWs]; done) | (simp; omega) | simp | exact encYA_sz (by assumption) | exact encYT_sz (by assumption) | exact encYM_sz (by assumption)) (by first | exact oneCell_ic | assumption | exact one_Ws2 _ | exact one_YA2 _ | exact one_YSl2 _ | exact one_YM2 _ | exact one_YT2 _ | exact one_L2 _) (fun h => by cases h) ?_ | refine WH_store Hvac.sizeOf104 rfl (v := .agg _) rfl (Hb.h (by repeat (first | assumption | exact Hb.newY _ _ | refine Hb.alloc ?_ | refine Hb.drew ?_ | refine Hb.ext (by assumption) ?_ | exact Hb.setSameL (by first | omega | (simp only [size_alloc, size_setB, size_drew]; omega)) | exact Hb.setSame (by assumption) | refine Hb.set (by first | omega | (simp only [size_alloc, size_setB, size_drew]; omega)) ?_ ))) (by first | omega | assumption | rfl | decide | exact Nat.le_refl _ | (simp only [size_ic, Value.cells]; omega) | (simp [encWs]; done) | (simp; omega) | simp | exact encYA_sz (by assumption) | exact encYT_sz (by assumption) | exact encYM_sz (by assumption)) (by first | omega | assumption | rfl | decide | exact Nat.le_refl _ | (simp only [size_ic, Value.cells]; omega) | (simp [encWs]; done) | (simp; omega) | simp | exact encYA_sz (by assumption) | exact encYT_sz (by assumption) | exact encYM_sz (by assumption)) (by first | exact oneCell_ic | assumption | exact one_Ws2 _ | exact one_YA2 _ | exact one_YSl2 _ | exact one_YM2 _ | exact one_YT2 _ | exact one_L2 _) (fun h => by cases h) ?_
            refine WH_nil ?_
            refine F_end ?_
            refine thn_normal ?_
            exact ⟨b6, _, _, _, ⟨rfl, rfl, rfl, rfl, rfl, rfl, rfl, rfl, rfl, trivial⟩, (by repeat (first | assumption | exact Ext.refl _ | refine Ext.alloc ?_ _ | refine Ext.drew ?_ | refine Ext.setB ?_ (by first | omega | (simp only [size_alloc, size_setB, size_drew]; omega)) _ | exact Ext.trans (by assumption) (by assumption) | refine Ext.trans ?_ (by assumption))), by omega, by omega, Hb.mk (Hb.h (by repeat (first | assumption | exact Hb.newY _ _ | refine Hb.alloc ?_ | refine Hb.drew ?_ | refine Hb.ext (by assumption) ?_ | exact Hb.setSameL (by first | omega | (simp only [size_alloc, size_setB, size_drew]; omega)) | exact Hb.setSame (by assumption) | refine Hb.set (by first | omega | (simp only [size_alloc, size_setB, size_drew]; omega)) ?_ ))), Hb.mk (Hb.h (by repeat (first | assumption | exact Hb.newY _ _ | refine Hb.alloc ?_ | refine Hb.drew ?_ | refine Hb.ext (by assumption) ?_ | exact Hb.setSameL (by first | omega | (simp only [size_alloc, size_setB, size_drew]; omega)) | exact Hb.setSame (by assumption) | refine Hb.set (by first | omega | (simp only [size_alloc, size_setB, size_drew]; omega)) ?_ ))), NN.kt (by first | exact NN.nil _ | assumption | exact NN.ext (by assumption) (by repeat (first | assumption | exact Ext.refl _ | refine Ext.alloc ?_ _ | refine Ext.drew ?_ | refine Ext.setB ?_ (by first | omega | (simp only [size_alloc, size_setB, size_drew]; omega)) _ | exact Ext.trans (by assumption) (by assumption) | refine Ext.trans ?_ (by assumption)))) (KT.setB (Hb.mk (Hb.h (by repeat (first | assumption | exact Hb.newY _ _ | refine Hb.alloc ?_ | refine Hb.drew ?_ | refine Hb.ext (by assumption) ?_ | exact Hb.setSameL (by first | omega | (simp only [size_alloc, size_setB, size_drew]; omega)) | exact Hb.setSame (by assumption) | refine Hb.set (by first | omega | (simp only [size_alloc, size_setB, size_drew]; omega)) ?_ )))) (by decide)), NN.kt (by first | exact NN.nil _ | assumption | exact NN.ext (by assumption) (by repeat (first | assumption | exact Ext.refl _ | refine Ext.alloc ?_ _ | refine Ext.drew ?_ | refine Ext.setB ?_ (by first | omega | (simp only [size_alloc, size_setB, size_drew]; omega)) _ | exact Ext.trans (by assumption) (by assumption) | refine Ext.trans ?_ (by assumption)))) (KT.setB (Hb.mk (Hb.h (by repeat (first | assumption | exact Hb.newY _ _ | refine Hb.alloc ?_ | refine Hb.drew ?_ | refine Hb.ext (by assumption) ?_ | exact Hb.setSameL (by first | omega | (simp only [size_alloc, size_setB, size_drew]; omega)) | exact Hb.setSame (by assumption) | refine Hb.set (by first | omega | (simp only [size_alloc, size_setB, size_drew]; omega)) ?_ )))) (by decide)), PB.kt (by first | exact PB.nil _ | assumption | exact PB.ext (by assumption) (by repeat (first | assumption | exact Ext.refl _ | refine Ext.alloc ?_ _ | refine Ext.drew ?_ | refine Ext.setB ?_ (by first | omega | (simp only [size_alloc, size_setB, size_drew]; omega)) _ | exact Ext.trans (by assumption) (by assumption) | refine Ext.trans ?_ (by assumption)))) (KT.setB (Hb.mk (Hb.h (by repeat (first | assumption | exact Hb.newY _ _ | refine Hb.alloc ?_ | refine Hb.drew ?_ | refine Hb.ext (by assumption) ?_ | exact Hb.setSameL (by first | omega | (simp only [size_alloc, size_setB, size_drew]; omega)) | exact Hb.setSame (by assumption) | refine Hb.set (by first | omega | (simp only [size_alloc, size_setB, size_drew]; omega)) ?_ )))) (by decide))⟩
        · rintro ρ8 w8 ⟨b6, s1, s2, s3, hFr8, hE8, hb6w, hb56, hb58, hb68, hn81, hn82, hn83⟩
          refine W_env _ hFr8 ?_
          have hz8 := hE8.1
          have hb5l8 := hb58.lt
          have hb6l8 := hb68.lt
          have hcY4 := encYA_4 (x := ⟨x2.addr, s1, s2, s3, (none, 0, 0)⟩) hxl2
          have hszY : (encYA ⟨x2.addr, s1, s2, s3, (none, 0, 0)⟩).toArray.size = 24 := by simpa using encYA_len (x := ⟨x2.addr, s1, s2, s3, (none, 0, 0)⟩) hxl2
          refine W_seqJ (fun ρ w' => ∃ pS, Fr [(0, .pointer (some ⟨S, 0, none⟩)), (2, .pointer (some ⟨b2, 0, none⟩)), (3, .pointer (some ⟨b3, 0, none⟩)), (4, .int .i64 i), (5, .pointer (some ⟨b5, 0, none⟩)), (6, .pointer (some ⟨b6, 0, none⟩)), (39, .slice (some ⟨bs, 0, none⟩) n cp), (40, .int .i64 n), (41, .int .i64 i)] ρ ∧ Ext w30 w' ∧ Hb w' b5 (.cells (encYA x2).toArray 104 (0, 0)) ∧ Hb w' b6 (.cells (encYA ⟨x2.addr, s1, s2, s3, (pS, m, m)⟩).toArray 104 (0, 0)) ∧ NN w' s1 y2.nonce ∧ NN w' s2 y2.bal ∧ PB w' s3 y2.code ∧ FL encYSl 2 111 w30 [b6, b5] w' (pS, m, m) m ([] : List YSl)) ?_ ?_
          · skip
            refine W_seq ?_
            refine W_region rfl ?_
            refine WO_p (PS_fieldAddr 23 Hvac.runUnderlying104 rfl Hvac.sizeOf102 rfl rfl) ?_
            refine WO_load (.slice _ _ _) Hvac.isAgg102 rfl (Hb.h (by repeat (first | assumption | exact Hb.newY _ _ | refine Hb.alloc ?_ | refine Hb.drew ?_ | refine Hb.ext (by assumption) ?_ | exact Hb.setSameL (by first | omega | (simp only [size_alloc, size_setB, size_drew]; omega)) | exact Hb.setSame (by assumption) | refine Hb.set (by first | omega | (simp only [size_alloc, size_setB, size_drew]; omega)) ?_ ))) (Ce.h (by first | assumption | exact ⟨rfl⟩)) ?_
            refine WO_p (PS_neqslnil Hvac.underlying102 rfl) ?_
            refine WO_nil ?_
            refine thn_normal ?_
            refine W_if rfl (fun hb20 => ?_) (fun hb20 => ?_)
            · have hb20p := hb20.h; try simp only [al_ete, al_dfn, Bool.not_eq_true', Bool.not_eq_false', al_ne, Bool.not_not, al_nn] at hb20p
              refine W_region rfl ?_
              refine WO_p (PS_fieldAddr 23 Hvac.runUnderlying104 rfl Hvac.sizeOf102 rfl rfl) ?_
              refine WO_load (.slice _ _ _) Hvac.isAgg102 rfl (Hb.h (by repeat (first | assumption | exact Hb.newY _ _ | refine Hb.alloc ?_ | refine Hb.drew ?_ | refine Hb.ext (by assumption) ?_ | exact Hb.setSameL (by first | omega | (simp only [size_alloc, size_setB, size_drew]; omega)) | exact Hb.setSame (by assumption) | refine Hb.set (by first | omega | (simp only [size_alloc, size_setB, size_drew]; omega)) ?_ ))) (Ce.h (by first | assumption | exact ⟨rfl⟩)) ?_
              refine WO_p (PS_lenS Hvac.runUnderlying102 rfl) ?_
              refine WO_make (z := .agg (encYSl ⟨(none, 0, 0), (none, 0, 0)⟩).toArray) Hvac.underlying102 info111 rfl rfl rfl (by omega) (by omega) (by show ((48 : Nat) : Int) * _ ≤ _; omega) (by omega) ?_
              rw [show ((m : Int)).toNat = m from Int.toNat_natCast _]
              refine WO_p (PS_fieldAddr 23 Hvac.runUnderlying104 rfl Hvac.sizeOf102 rfl rfl) ?_
              refine WO_store1 Hvac.sizeOf102 rfl (v := .slice _ _ _) rfl (Hb.h (by repeat (first | assumption | exact Hb.newY _ _ | refine Hb.alloc ?_ | refine Hb.drew ?_ | refine Hb.ext (by assumption) ?_ | exact Hb.setSameL (by first | omega | (simp only [size_alloc, size_setB, size_drew]; omega)) | exact Hb.setSame (by assumption) | refine Hb.set (by first | omega | (simp only [size_alloc, size_setB, size_drew]; omega)) ?_ ))) rfl (by omega) rfl ?_
              rw [encYA_set4 (x := ⟨x2.addr, s1, s2, s3, (none, 0, 0)⟩) hxl2]
              refine WO_nil ?_
              refine thn_normal ?_
              exact ⟨some ⟨_, 0, none⟩, ⟨rfl, rfl, rfl, rfl, rfl, rfl, rfl, rfl, rfl, trivial⟩, (by repeat (first | assumption | exact Ext.refl _ | refine Ext.alloc ?_ _ | refine Ext.drew ?_ | refine Ext.setB ?_ (by first | omega | (simp only [size_alloc, size_setB, size_drew]; omega)) _ | exact Ext.trans (by assumption) (by assumption) | refine Ext.trans ?_ (by assumption))), Hb.mk (Hb.h (by repeat (first | assumption | exact Hb.newY _ _ | refine Hb.alloc ?_ | refine Hb.drew ?_ | refine Hb.ext (by assumption) ?_ | exact Hb.setSameL (by first | omega | (simp only [size_alloc, size_setB, size_drew]; omega)) | exact Hb.setSame (by assumption) | refine Hb.set (by first | omega | (simp only [size_alloc, size_setB, size_drew]; omega)) ?_ ))), Hb.mk (Hb.h (by repeat (first | assumption | exact Hb.newY _ _ | refine Hb.alloc ?_ | refine Hb.drew ?_ | refine Hb.ext (by assumption) ?_ | exact Hb.setSameL (by first | omega | (simp only [size_alloc, size_setB, size_drew]; omega)) | exact Hb.setSame (by assumption) | refine Hb.set (by first | omega | (simp only [size_alloc, size_setB, size_drew]; omega)) ?_ ))), NN.kt (NN.ext hn81 (by repeat (first | assumption | exact Ext.refl _ | refine Ext.alloc ?_ _ | refine Ext.drew ?_ | refine Ext.setB ?_ (by first | omega | (simp only [size_alloc, size_setB, size_drew]; omega)) _ | exact Ext.trans (by assumption) (by assumption) | refine Ext.trans ?_ (by assumption)))) (KT.setB (Hb.mk (Hb.h (by repeat (first | assumption | exact Hb.newY _ _ | refine Hb.alloc ?_ | refine Hb.drew ?_ | refine Hb.ext (by assumption) ?_ | exact Hb.setSameL (by first | omega | (simp only [size_alloc, size_setB, size_drew]; omega)) | exact Hb.setSame (by assumption) | refine Hb.set (by first | omega | (simp only [size_alloc, size_setB, size_drew]; omega)) ?_ )))) (by decide)), NN.kt (NN.ext hn82 (by repeat (first | assumption | exact Ext.refl _ | refine Ext.alloc ?_ _ | refine Ext.drew ?_ | refine Ext.setB ?_ (by first | omega | (simp only [size_alloc, size_setB, size_drew]; omega)) _ | exact Ext.trans (by assumption) (by assumption) | refine Ext.trans ?_ (by assumption)))) (KT.setB (Hb.mk (Hb.h (by repeat (first | assumption | exact Hb.newY _ _ | refine Hb.alloc ?_ | refine Hb.drew ?_ | refine Hb.ext (by assumption) ?_ | exact Hb.setSameL (by first | omega | (simp only [size_alloc, size_setB, size_drew]; omega)) | exact Hb.setSame (by assumption) | refine Hb.set (by first | omega | (simp only [size_alloc, size_setB, size_drew]; omega)) ?_ )))) (by decide)), PB.kt (PB.ext hn83 (by repeat (first | assumption | exact Ext.refl _ | refine Ext.alloc ?_ _ | refine Ext.drew ?_ | refine Ext.setB ?_ (by first | omega | (simp only [size_alloc, size_setB, size_drew]; omega)) _ | exact Ext.trans (by assumption) (by assumption) | refine Ext.trans ?_ (by assumption)))) (KT.setB (Hb.mk (Hb.h (by repeat (first | assumption | exact Hb.newY _ _ | refine Hb.alloc ?_ | refine Hb.drew ?_ | refine Hb.ext (by assumption) ?_ | exact Hb.setSameL (by first | omega | (simp only [size_alloc, size_setB, size_drew]; omega)) | exact Hb.setSame (by assumption) | refine Hb.set (by first | omega | (simp only [size_alloc, size_setB, size_drew]; omega)) ?_ )))) (by decide)), FL.set (FL.made (Hb.newY _ _) (size_madeCells _ _) (by first | omega | (simp only [size_alloc, size_setB, size_drew]; omega)) (by simp; omega)) (Or.inl (by simp)) _⟩
            · have hb20p := hb20.h; try simp only [al_ete, al_dfn, Bool.not_eq_true', Bool.not_eq_false', al_ne, Bool.not_not, al_nn] at hb20p
              have hpz : pz = none := by simpa using hb20p
              have hm0 : m = 0 := by
                rcases Nat.eq_zero_or_pos m with h0 | h0
                · exact h0
                · obtain ⟨b, r, fz, h1, _⟩ := hPS.at_ h0
                  rw [hpz] at h1; cases h1
              refine W_skip ?_
              refine thn_normal ?_
              subst hm0; exact ⟨none, ⟨rfl, rfl, rfl, rfl, rfl, rfl, rfl, rfl, rfl, trivial⟩, (by repeat (first | assumption | exact Ext.refl _ | refine Ext.alloc ?_ _ | refine Ext.drew ?_ | refine Ext.setB ?_ (by first | omega | (simp only [size_alloc, size_setB, size_drew]; omega)) _ | exact Ext.trans (by assumption) (by assumption) | refine Ext.trans ?_ (by assumption))), Hb.mk (Hb.h (by repeat (first | assumption | exact Hb.newY _ _ | refine Hb.alloc ?_ | refine Hb.drew ?_ | refine Hb.ext (by assumption) ?_ | exact Hb.setSameL (by first | omega | (simp only [size_alloc, size_setB, size_drew]; omega)) | exact Hb.setSame (by assumption) | refine Hb.set (by first | omega | (simp only [size_alloc, size_setB, size_drew]; omega)) ?_ ))), Hb.mk (Hb.h (by repeat (first | assumption | exact Hb.newY _ _ | refine Hb.alloc ?_ | refine Hb.drew ?_ | refine Hb.ext (by assumption) ?_ | exact Hb.setSameL (by first | omega | (simp only [size_alloc, size_setB, size_drew]; omega)) | exact Hb.setSame (by assumption) | refine Hb.set (by first | omega | (simp only [size_alloc, size_setB, size_drew]; omega)) ?_ ))), hn81, hn82, hn83, FL.nil _ _ _ _ _ _⟩
          · rintro ρ10 w10 ⟨pS, hFr10, hE10, hb510, hb610, hnA1, hnA2, hnA3, hFL10⟩
            refine W_env _ hFr10 ?_
            have hz10 := hE10.1
            have hb5l10 := hb510.lt
            have hb6l10 := hb610.lt
            have hsz10 := encYA_sz (x := ⟨x2.addr, s1, s2, s3, (pS, m, m)⟩) hxl2
            refine W_seq ?_
            refine W_seq ?_
            refine W_region rfl ?_
            refine WO_p (PS_fieldAddr 23 Hvac.runUnderlying104 rfl Hvac.sizeOf102 rfl rfl) ?_
            refine WO_load (.slice _ _ _) Hvac.isAgg102 rfl (Hb.h (by repeat (first | assumption | exact Hb.newY _ _ | refine Hb.alloc ?_ | refine Hb.drew ?_ | refine Hb.ext (by assumption) ?_ | exact Hb.setSameL (by first | omega | (simp only [size_alloc, size_setB, size_drew]; omega)) | exact Hb.setSame (by assumption) | refine Hb.set (by first | omega | (simp only [size_alloc, size_setB, size_drew]; omega)) ?_ ))) (Ce.h (by first | assumption | exact ⟨rfl⟩)) ?_
            refine WO_p (PS_lenS Hvac.runUnderlying102 rfl) ?_
            refine WO_p (PS_move_int rfl) ?_
            refine WO_nil ?_
            refine thn_normal ?_
            refine W_block ?_
            refine W_loopN (fun k9 ρ w' => ∃ (j : Nat) (K2 : List YSl), j + k9 = m ∧ K2.length = j ∧ FL encYSl 2 111 w30 [b6, b5] w' (pS, m, m) m K2 ∧ R2 (SlR w') K2 (y2.slots.take j) ∧ Fr [(0, .pointer (some ⟨S, 0, none⟩)), (2, .pointer (some ⟨b2, 0, none⟩)), (3, .pointer (some ⟨b3, 0, none⟩)), (4, .int .i64 i), (5, .pointer (some ⟨b5, 0, none⟩)), (6, .pointer (some ⟨b6, 0, none⟩)), (39, .slice (some ⟨bs, 0, none⟩) n cp), (40, .int .i64 n), (41, .int .i64 i), (67, .slice pz m cz), (68, .int .i64 m), (69, .int .i64 j)] ρ ∧ Ext w30 w' ∧ Hb w' b6 (.cells (encYA ⟨x2.addr, s1, s2, s3, (pS, m, m)⟩).toArray 104 (0, 0)) ∧ NN w' s1 y2.nonce ∧ NN w' s2 y2.bal ∧ PB w' s3 y2.code) m ?_ ?_
            · exact ⟨0, [], by omega, rfl, hFL10, R2.nil _, ⟨rfl, rfl, rfl, rfl, rfl, rfl, rfl, rfl, rfl, rfl, rfl, rfl, trivial⟩, (by repeat (first | assumption | exact Ext.refl _ | refine Ext.alloc ?_ _ | refine Ext.drew ?_ | refine Ext.setB ?_ (by first | omega | (simp only [size_alloc, size_setB, size_drew]; omega)) _ | refine Ext.trans ?_ (by assumption))), hb610, hnA1, hnA2, hnA3⟩
            intro k40 ρ40 w40 hI40
            obtain ⟨j, K2, hjk, hKj, hFLS, hKRS, hFr40, hE40, hb67, hnB1, hnB2, hnB3⟩ := hI40
            refine W_env _ hFr40 ?_
            have hz40 := hE40.1
            have hb67_l := hb67.lt
            refine W_seq ?_
            refine W_region rfl ?_
            refine WO_p (PS_lss rfl rfl) ?_
            refine WO_nil ?_
            refine thn_normal ?_
            refine W_seq ?_
            refine W_if rfl (fun hb22 => ?_) (fun hb22 => ?_)
            · have hb22p := hb22.h; try simp only [al_ete, al_dfn, Bool.not_eq_true', Bool.not_eq_false', al_ne, Bool.not_not, al_nn] at hb22p
              obtain ⟨x3, y3, hx3, hy3, hxy3⟩ := hRS.get (i := j) (by omega)
              obtain ⟨bt, rt, fzt, hpt, hbt, hrt, hXj⟩ := pl_at (hPS.ext (hE30.trans hE40)) hx3 rfl
              subst hpt
              have hsz3 : (encYSl x3).toArray.size = 2 := rfl
              have hk3 := hxy3.key.ext (hE30.trans hE40)
              have hv3' := hxy3.val.ext (hE30.trans hE40)
              have hkz3 := hxy3.kz
              have hvz3 := hxy3.vz
              obtain ⟨bS, rS, hpS', hbS0, hbSX, hbS, hrS, hRSS⟩ := hFLS.row (by omega)
              dsimp only at hpS'
              subst hpS'
              have hbSl := hbS.lt
              have hSb : 0 + j * 2 + 2 ≤ rS.size := by rw [hrS]; have := Nat.mul_le_mul_right 2 (show j + 1 ≤ m by omega); omega
              have hbS6 : bS ≠ b6 := by intro e; apply hbSX; simp [e]
              have hbS5 : bS ≠ b5 := by intro e; apply hbSX; simp [e]
              have hc64 : Ce (encYA ⟨x2.addr, s1, s2, s3, (some ⟨bS, 0, none⟩, m, m)⟩).toArray (0 + 23) (.slice (some ⟨bS, 0, none⟩) m m) := encYA_4 (x := ⟨x2.addr, s1, s2, s3, (some ⟨bS, 0, none⟩, m, m)⟩) hxl2
              refine W_skip ?_
              refine thn_normal ?_
              refine W_seq ?_
              refine W_block ?_
              refine W_seq ?_
              refine W_region rfl ?_
              refine WO_p (PS_move_int rfl) ?_
              refine WO_p (PS_indexS Hvac.runUnderlying102 Hvac.sizeOf111 rfl rfl (by omega) (by omega)) ?_
              refine WO_loadA _ Hvac.isAgg111 Hvac.sizeOf111 rfl (Hb.h (by repeat (first | assumption | exact Hb.newY _ _ | refine Hb.alloc ?_ | refine Hb.drew ?_ | refine Hb.ext (by assumption) ?_ | exact Hb.setSameL (by first | omega | (simp only [size_alloc, size_setB, size_drew]; omega)) | exact Hb.setSame (by assumption) | refine Hb.set (by first | omega | (simp only [size_alloc, size_setB, size_drew]; omega)) ?_ ))) (by first | omega | assumption | rfl | decide | exact Nat.le_refl _ | (simp only [size_ic, Value.cells]; omega) | (simp [encWs]; done) | (simp; omega) | simp | exact encYA_sz (by assumption) | exact encYT_sz (by assumption) | exact encYM_sz (by assumption)) (Xt.h (by first | assumption | exact Xt.whole rfl rfl | exact Xt.whole rfl (by assumption) | exact Xt.whole rfl (by simp only [size_ic, Value.cells]; omega) | exact ⟨rfl⟩)) ?_
              refine WO_allocG Hvac.zeroValue111 ?_
              intro b8 v8 hg8 hE8 hH8 hl8
              try simp only [size_alloc, size_setB, size_drew] at hg8
              have hzz8 := hE8.1
              try simp only [size_alloc, size_setB, size_drew] at hzz8
              replace hH8 : Hb v8 b8 (.cells ((encYSl ⟨(none, 0, 0), (none, 0, 0)⟩).toArray) 111 (0, 0)) := hH8
              refine WO_p (PS_assign_int rfl) ?_
              first | refine WO_storeW Hvac.sizeOf111 rfl (v := .agg _) rfl (Hb.h (by repeat (first | assumption | exact Hb.newY _ _ | refine Hb.alloc ?_ | refine Hb.drew ?_ | refine Hb.ext (by assumption) ?_ | exact Hb.setSameL (by first | omega | (simp only [size_alloc, size_setB, size_drew]; omega)) | exact Hb.setSame (by assumption) | refine Hb.set (by first | omega | (simp only [size_alloc, size_setB, size_drew]; omega)) ?_ ))) rfl (by first | omega | assumption | rfl | decide | exact Nat.le_refl _ | (simp only [size_ic, Value.cells]; omega) | (simp [encWs]; done) | (simp; omega) | simp | exact encYA_sz (by assumption) | exact encYT_sz (by assumption) | exact encYM_sz (by assumption)) (by first | omega | assumption | rfl | decide | exact Nat.le_refl _ | (simp only [size_ic, Value.cells]; omega) | (simp [encWs]; done) | (simp; omega) | simp | exact encYA_sz (by assumption) | exact encYT_sz (by assumption) | exact encYM_sz (by assumption)) (by first | exact oneCell_ic | assumption | exact one_Ws2 _ | exact one_YA2 _ | exact one_YSl2 _ | exact one_YM2 _ | exact one_YT2 _ | exact one_L2 _) ?_ | refine WO_store Hvac.sizeOf111 rfl (v := .agg _) rfl (Hb.h (by repeat (first | assumption | exact Hb.newY _ _ | refine Hb.alloc ?_ | refine Hb.drew ?_ | refine Hb.ext (by assumption) ?_ | exact Hb.setSameL (by first | omega | (simp only [size_alloc, size_setB, size_drew]; omega)) | exact Hb.setSame (by assumption) | refine Hb.set (by first | omega | (simp only [size_alloc, size_setB, size_drew]; omega)) ?_ ))) (by first | omega | assumption | rfl | decide | exact Nat.le_refl _ | (simp only [size_ic, Value.cells]; omega) | (simp [encWs]; done) | (simp; omega) | simp | exact encYA_sz (by assumption) | exact encYT_sz (by assumption) | exact encYM_sz (by assumption)) (by first | omega | assumption | rfl | decide | exact Nat.le_refl _ | (simp only [size_ic, Value.cells]; omega) | (simp [encWs]; done) | (simp; omega) | simp | exact encYA_sz (by assumption) | exact encYT_sz (by assumption) | exact encYM_sz (by assumption)) (by first | exact oneCell_ic | assumption | exact one_Ws2 _ | exact one_YA2 _ | exact one_YSl2 _ | exact one_YM2 _ | exact one_YT2 _ | exact one_L2 _) ?_
              refine WO_nil ?_
              refine thn_normal ?_
              refine W_drawE [false, false, false, false, false, true, false, false, true, false, false, false] hmix (by kernel_rfl) rfl ?_
              refine WH_p (PS_fieldAddr 23 Hvac.runUnderlying104 rfl Hvac.sizeOf102 rfl rfl) rfl ?_
              refine WH_load (.slice _ _ _) Hvac.isAgg102 rfl (Hb.h (by repeat (first | assumption | exact Hb.newY _ _ | refine Hb.alloc ?_ | refine Hb.drew ?_ | refine Hb.ext (by assumption) ?_ | exact Hb.setSameL (by first | omega | (simp only [size_alloc, size_setB, size_drew]; omega)) | exact Hb.setSame (by assumption) | refine Hb.set (by first | omega | (simp only [size_alloc, size_setB, size_drew]; omega)) ?_ ))) (Ce.h (by first | assumption | exact ⟨rfl⟩)) ?_
              refine WH_p (PS_move_int rfl) rfl ?_
              refine WH_p (PS_fieldAddr 0 Hvac.runUnderlying111 rfl Hvac.sizeOf92 rfl rfl) rfl ?_
              refine WH_load (.slice _ _ _) Hvac.isAgg92 rfl (Hb.h (by repeat (first | assumption | exact Hb.newY _ _ | refine Hb.alloc ?_ | refine Hb.drew ?_ | refine Hb.ext (by assumption) ?_ | exact Hb.setSameL (by first | omega | (simp only [size_alloc, size_setB, size_drew]; omega)) | exact Hb.setSame (by assumption) | refine Hb.set (by first | omega | (simp only [size_alloc, size_setB, size_drew]; omega)) ?_ ))) (Ce.h (by first | assumption | exact ⟨rfl⟩)) ?_
              refine WH_call Hvac.call164 (by rfl) (Ret.mono (yNatOf_spec _ (OmB.ext hO (by repeat (first | assumption | exact Ext.refl _ | refine Ext.alloc ?_ _ | refine Ext.drew ?_ | refine Ext.setB ?_ (by first | omega | (simp only [size_alloc, size_setB, size_drew]; omega)) _ | exact Ext.trans (by assumption) (by assumption) | refine Ext.trans ?_ (by assumption)))) _ _ _ _ (by first | exact NN.nil _ | assumption | exact NN.ext (by assumption) (by repeat (first | assumption | exact Ext.refl _ | refine Ext.alloc ?_ _ | refine Ext.drew ?_ | refine Ext.setB ?_ (by first | omega | (simp only [size_alloc, size_setB, size_drew]; omega)) _ | exact Ext.trans (by assumption) (by assumption) | refine Ext.trans ?_ (by assumption)))) (by first | assumption | omega | (rw [sz_zero]; omega))) ?_)
              rintro _ w164_22 ⟨hE164_22, s164_22, rfl, hN164_22⟩
              refine ⟨fun _ => (by repeat (first | assumption | exact Ext.refl _ | refine Ext.alloc ?_ _ | refine Ext.drew ?_ | refine Ext.setB ?_ (by first | omega | (simp only [size_alloc, size_setB, size_drew]; omega)) _ | exact Ext.trans (by assumption) (by assumption) | refine Ext.trans ?_ (by assumption))), ?_⟩
              have hz164_22 := hE164_22.1
              try simp only [size_alloc, size_setB, size_drew] at hz164_22
              refine WH_p (PS_fieldAddr 1 Hvac.runUnderlying111 rfl Hvac.sizeOf92 rfl rfl) rfl ?_
              refine WH_load (.slice _ _ _) Hvac.isAgg92 rfl (Hb.h (by repeat (first | assumption | exact Hb.newY _ _ | refine Hb.alloc ?_ | refine Hb.drew ?_ | refine Hb.ext (by assumption) ?_ | exact Hb.setSameL (by first | omega | (simp only [size_alloc, size_setB, size_drew]; omega)) | exact Hb.setSame (by assumption) | refine Hb.set (by first | omega | (simp only [size_alloc, size_setB, size_drew]; omega)) ?_ ))) (Ce.h (by first | assumption | exact ⟨rfl⟩)) ?_
              refine WH_call Hvac.call164 (by rfl) (Ret.mono (yNatOf_spec _ (OmB.ext hO (by repeat (first | assumption | exact Ext.refl _ | refine Ext.alloc ?_ _ | refine Ext.drew ?_ | refine Ext.setB ?_ (by first | omega | (simp only [size_alloc, size_setB, size_drew]; omega)) _ | exact Ext.trans (by assumption) (by assumption) | refine Ext.trans ?_ (by assumption)))) _ _ _ _ (by first | exact NN.nil _ | assumption | exact NN.ext (by assumption) (by repeat (first | assumption | exact Ext.refl _ | refine Ext.alloc ?_ _ | refine Ext.drew ?_ | refine Ext.setB ?_ (by first | omega | (simp only [size_alloc, size_setB, size_drew]; omega)) _ | exact Ext.trans (by assumption) (by assumption) | refine Ext.trans ?_ (by assumption)))) (by first | assumption | omega | (rw [sz_zero]; omega))) ?_)
              rintro _ w164_23 ⟨hE164_23, s164_23, rfl, hN164_23⟩
              refine ⟨fun _ => (by repeat (first | assumption | exact Ext.refl _ | refine Ext.alloc ?_ _ | refine Ext.drew ?_ | refine Ext.setB ?_ (by first | omega | (simp only [size_alloc, size_setB, size_drew]; omega)) _ | exact Ext.trans (by assumption) (by assumption) | refine Ext.trans ?_ (by assumption))), ?_⟩
              have hz164_23 := hE164_23.1
              try simp only [size_alloc, size_setB, size_drew] at hz164_23
              refine WH_p (PS_b111 rfl rfl) rfl ?_
              refine WH_p (PS_indexS Hvac.runUnderlying102 Hvac.sizeOf111 rfl rfl (by omega) (by omega)) rfl ?_
              first | refine WH_storeW Hvac.sizeOf111 rfl (v := .agg _) rfl (Hb.h (by repeat (first | assumption | exact Hb.newY _ _ | refine Hb.alloc ?_ | refine Hb.drew ?_ | refine Hb.ext (by assumption) ?_ | exact Hb.setSameL (by first | omega | (simp only [size_alloc, size_setB, size_drew]; omega)) | exact Hb.setSame (by assumption) | refine Hb.set (by first | omega | (simp only [size_alloc, size_setB, size_drew]; omega)) ?_ ))) rfl (by first | omega | assumption | rfl | decide | exact Nat.le_refl _ | (simp only [size_ic, Value.cells]; omega) | (simp [encWs]; done) | (simp; omega) | simp | exact encYA_sz (by assumption) | exact encYT_sz (by assumption) | exact encYM_sz (by assumption)) (by first | omega | assumption | rfl | decide | exact Nat.le_refl _ | (simp only [size_ic, Value.cells]; omega) | (simp [encWs]; done) | (simp; omega) | simp | exact encYA_sz (by assumption) | exact encYT_sz (by assumption) | exact encYM_sz (by assumption)) (by first | exact oneCell_ic | assumption | exact one_Ws2 _ | exact one_YA2 _ | exact one_YSl2 _ | exact one_YM2 _ | exact one_YT2 _ | exact one_L2 _) (fun h => by cases h) ?_ | refine WH_store Hvac.sizeOf111 rfl (v := .agg _) rfl (Hb.h (by repeat (first | assumption | exact Hb.newY _ _ | refine Hb.alloc ?_ | refine Hb.drew ?_ | refine Hb.ext (by assumption) ?_ | exact Hb.setSameL (by first | omega | (simp only [size_alloc, size_setB, size_drew]; omega)) | exact Hb.setSame (by assumption) | refine Hb.set (by first | omega | (simp only [size_alloc, size_setB, size_drew]; omega)) ?_ ))) (by first | omega | assumption | rfl | decide | exact Nat.le_refl _ | (simp only [size_ic, Value.cells]; omega) | (simp [encWs]; done) | (simp; omega) | simp | exact encYA_sz (by assumption) | exact encYT_sz (by assumption) | exact encYM_sz (by assumption)) (by first | omega | assumption | rfl | decide | exact Nat.le_refl _ | (simp only [size_ic, Value.cells]; omega) | (simp [encWs]; done) | (simp; omega) | simp | exact encYA_sz (by assumption) | exact encYT_sz (by assumption) | exact encYM_sz (by assumption)) (by first | exact oneCell_ic | assumption | exact one_Ws2 _ | exact one_YA2 _ | exact one_YSl2 _ | exact one_YM2 _ | exact one_YT2 _ | exact one_L2 _) (fun h => by cases h) ?_
              refine WH_nil ?_
              refine inBlk_normal ?_
              refine thn_normal ?_
              refine W_region rfl ?_
              refine WO_p (PS_add_i64n rfl rfl (by omega) (by omega)) ?_
              refine WO_p (PS_move_int rfl) ?_
              refine WO_nil ?_
              refine thn_normal ?_
              have hEB : Ext w40 w164_23 := (by repeat (first | assumption | exact Ext.refl _ | refine Ext.alloc ?_ _ | refine Ext.drew ?_ | refine Ext.setB ?_ (by first | omega | (simp only [size_alloc, size_setB, size_drew]; omega)) _ | refine Ext.trans ?_ (by assumption)))
              have hFLB := hFLS.ext hEB
              have hbSB := hbS.ext hEB
              refine ⟨k40 - 1, by omega, j + 1, K2 ++ [⟨s164_22, s164_23⟩], by omega, by simp; omega, hFLB.put hKj (by omega) hbSB rfl (by simp [Value.cells]), ?_, ⟨rfl, rfl, rfl, rfl, rfl, rfl, rfl, rfl, rfl, rfl, rfl, congrArg (Value.int .i64) (by omega), trivial⟩, Ext.setB (hE40.trans hEB) (by omega) _, Hb.set (by omega) (hb67.ext hEB), (hnB1.ext hEB).kt (KT.setB hbSB (by decide)), (hnB2.ext hEB).kt (KT.setB hbSB (by decide)), (hnB3.ext hEB).kt (KT.setB hbSB (by decide))⟩
              rw [take_snoc hy3]
              exact R2.snoc (hKRS.mono fun _ _ h => (h.ext hEB).kt (KT.setB hbSB (by decide))) ⟨(hN164_22.ext hE164_23).kt (KT.setB hbSB (by decide)), hN164_23.kt (KT.setB hbSB (by decide)), hkz3, hvz3⟩
            · have hb22p := hb22.h; try simp only [al_ete, al_dfn, Bool.not_eq_true', Bool.not_eq_false', al_ne, Bool.not_not, al_nn] at hb22p
              refine W_exit ?_
              refine thn_exit ?_
              refine thn_exit ?_
              refine inBlk_exit ?_
              refine thn_normal ?_
              refine W_region rfl ?_
              refine WO_p (PS_fieldAddr 0 Hvac.runUnderlying95 rfl Hvac.sizeOf89 rfl rfl) ?_
              refine WO_load (.slice _ _ _) Hvac.isAgg89 rfl (Hb.h (by repeat (first | assumption | exact Hb.newY _ _ | refine Hb.alloc ?_ | refine Hb.drew ?_ | refine Hb.ext (by assumption) ?_ | exact Hb.setSameL (by first | omega | (simp only [size_alloc, size_setB, size_drew]; omega)) | exact Hb.setSame (by assumption) | refine Hb.set (by first | omega | (simp only [size_alloc, size_setB, size_drew]; omega)) ?_ ))) (Ce.h (by first | assumption | exact ⟨rfl⟩)) ?_
              refine WO_p (PS_move_int rfl) ?_
              refine WO_loadA _ Hvac.isAgg104 Hvac.sizeOf104 rfl (Hb.h (by repeat (first | assumption | exact Hb.newY _ _ | refine Hb.alloc ?_ | refine Hb.drew ?_ | refine Hb.ext (by assumption) ?_ | exact Hb.setSameL (by first | omega | (simp only [size_alloc, size_setB, size_drew]; omega)) | exact Hb.setSame (by assumption) | refine Hb.set (by first | omega | (simp only [size_alloc, size_setB, size_drew]; omega)) ?_ ))) (by first | omega | assumption | rfl | decide | exact Nat.le_refl _ | (simp only [size_ic, Value.cells]; omega) | (simp [encWs]; done) | (simp; omega) | simp | exact encYA_sz (by assumption) | exact encYT_sz (by assumption) | exact encYM_sz (by assumption)) (Xt.h (by first | assumption | exact Xt.whole rfl rfl | exact Xt.whole rfl (by assumption) | exact Xt.whole rfl (by simp only [size_ic, Value.cells]; omega) | exact ⟨rfl⟩)) ?_
              refine WO_p (PS_indexS Hvac.runUnderlying89 Hvac.sizeOf104 rfl rfl (by omega) (by omega)) ?_
              first | refine WO_storeW Hvac.sizeOf104 rfl (v := .agg _) rfl (Hb.h (by repeat (first | assumption | exact Hb.newY _ _ | refine Hb.alloc ?_ | refine Hb.drew ?_ | refine Hb.ext (by assumption) ?_ | exact Hb.setSameL (by first | omega | (simp only [size_alloc, size_setB, size_drew]; omega)) | exact Hb.setSame (by assumption) | refine Hb.set (by first | omega | (simp only [size_alloc, size_setB, size_drew]; omega)) ?_ ))) rfl (by first | omega | assumption | rfl | decide | exact Nat.le_refl _ | (simp only [size_ic, Value.cells]; omega) | (simp [encWs]; done) | (simp; omega) | simp | exact encYA_sz (by assumption) | exact encYT_sz (by assumption) | exact encYM_sz (by assumption)) (by first | omega | assumption | rfl | decide | exact Nat.le_refl _ | (simp only [size_ic, Value.cells]; omega) | (simp [encWs]; done) | (simp; omega) | simp | exact encYA_sz (by assumption) | exact encYT_sz (by assumption) | exact encYM_sz (by assumption)) (by first | exact oneCell_ic | assumption | exact one_Ws2 _ | exact one_YA2 _ | exact one_YSl2 _ | exact one_YM2 _ | exact one_YT2 _ | exact one_L2 _) ?_ | refine WO_store Hvac.sizeOf104 rfl (v := .agg _) rfl (Hb.h (by repeat (first | assumption | exact Hb.newY _ _ | refine Hb.alloc ?_ | refine Hb.drew ?_ | refine Hb.ext (by assumption) ?_ | exact Hb.setSameL (by first | omega | (simp only [size_alloc, size_setB, size_drew]; omega)) | exact Hb.setSame (by assumption) | refine Hb.set (by first | omega | (simp only [size_alloc, size_setB, size_drew]; omega)) ?_ ))) (by first | omega | assumption | rfl | decide | exact Nat.le_refl _ | (simp only [size_ic, Value.cells]; omega) | (simp [encWs]; done) | (simp; omega) | simp | exact encYA_sz (by assumption) | exact encYT_sz (by assumption) | exact encYM_sz (by assumption)) (by first | omega | assumption | rfl | decide | exact Nat.le_refl _ | (simp only [size_ic, Value.cells]; omega) | (simp [encWs]; done) | (simp; omega) | simp | exact encYA_sz (by assumption) | exact encYT_sz (by assumption) | exact encYM_sz (by assumption)) (by first | exact oneCell_ic | assumption | exact one_Ws2 _ | exact one_YA2 _ | exact one_YSl2 _ | exact one_YM2 _ | exact one_YT2 _ | exact one_L2 _) ?_
              refine WO_nil ?_
              refine inBlk_normal ?_
              refine thn_normal ?_
              refine W_region rfl ?_
              refine WO_p (PS_add_i64n rfl rfl (by omega) (by omega)) ?_
              refine WO_p (PS_move_int rfl) ?_
              refine WO_nil ?_
              refine thn_normal ?_
              have hj40 : j = m := by omega
              have hFLA := hFL5.ext hE40
              have hbAA := hbA.ext hE40
              have hlenN := encYA_len (x := ⟨x2.addr, s1, s2, s3, (pS, m, m)⟩) hxl2
              have hSl : SlsR w40 (pS, m, m) y2.slots := ⟨K2, hFLS.pl (OmB.ext hO hE30) (by omega), by have h9 := hKRS; rwa [List.take_of_length_le (by omega)] at h9⟩
              refine ⟨k30 - 1, by omega, i + 1, K ++ [⟨x2.addr, s1, s2, s3, (pS, m, m)⟩], by omega, by simp; omega, hFLA.put hKi (by omega) hbAA hlenN (by simp [Value.cells]), ?_, CF.set (hCF5.ext hE40) hbAA used_104, ⟨rfl, rfl, rfl, rfl, rfl, congrArg (Value.int .i64) (by omega), trivial⟩, Ext.setB (hE30.trans hE40) (by omega) _, Hb.set (by omega) (hb35.ext hE40), Hb.set (by omega) (hb25.ext hE40)⟩
              rw [take_snoc hy2]
              exact R2.snoc (hKR5.mono fun _ _ h => (h.ext hE40).kt (KT.setB hbAA (by decide)) (KT.setB hbAA (by decide))) { addr := hxy2.addr, ab := hxy2.ab, nonce := hnB1.kt (KT.setB hbAA (by decide)), bal := hnB2.kt (KT.setB hbAA (by decide)), nz := hxy2.nz, bz := hxy2.bz, code := hnB3.kt (KT.setB hbAA (by decide)), slots := hSl.kt (KT.setB hbAA (by decide)) (KT.setB hbAA (by decide)) }
      · have hb9p := hb9.h; try simp only [al_ete, al_dfn, Bool.not_eq_true', Bool.not_eq_false', al_ne, Bool.not_not, al_nn] at hb9p
        refine W_exit ?_
        refine thn_exit ?_
        refine thn_exit ?_
        refine inBlk_exit ?_
        refine thn_normal ?_
        refine W_seqJ (fun ρ w' => ∃ y', Fr [(0, .pointer (some ⟨S, 0, none⟩)), (2, .pointer (some ⟨b2, 0, none⟩)), (3, .pointer (some ⟨b3, 0, none⟩))] ρ ∧ Ext w w' ∧ Hb w' b2 (.cells (encWs ⟨(none, 0, 0), (none, 0, 0), (none, 0, 0), (none, 0, 0), (none, 0, 0), (none, 0, 0), (none, 0, 0), (none, 0, 0)⟩).toArray 95 (0, 0)) ∧ Hb w' b3 (.cells (encWs y').toArray 95 (0, 0)) ∧ CF w' y' q 2 ∧ y'.warmS = (none, 0, 0) ∧ y'.temps = (none, 0, 0)) ?_ ?_
        · skip
          refine W_region rfl ?_
          refine WO_p (PS_move_ptr rfl) ?_
          refine WO_p (PS_nilCheck rfl) ?_
          refine WO_p (PS_fieldAddr 1 Hvac.runUnderlying95 rfl Hvac.sizeOf90 rfl rfl) ?_
          refine WO_load (.slice _ _ _) Hvac.isAgg90 rfl (Hb.h (by repeat (first | assumption | exact Hb.newY _ _ | refine Hb.alloc ?_ | refine Hb.drew ?_ | refine Hb.ext (by assumption) ?_ | exact Hb.setSameL (by first | omega | (simp only [size_alloc, size_setB, size_drew]; omega)) | exact Hb.setSame (by assumption) | refine Hb.set (by first | omega | (simp only [size_alloc, size_setB, size_drew]; omega)) ?_ ))) (Ce.h (by first | assumption | exact ⟨rfl⟩)) ?_
          refine WO_call Hvac.call166 (by rfl) (Ret.mono (yAddrsOf_spec _ (OmB.ext hO (by repeat (first | assumption | exact Ext.refl _ | refine Ext.alloc ?_ _ | refine Ext.drew ?_ | refine Ext.setB ?_ (by first | omega | (simp only [size_alloc, size_setB, size_drew]; omega)) _ | exact Ext.trans (by assumption) (by assumption) | refine Ext.trans ?_ (by assumption)))) _ _ _ _ (by first | assumption | exact AdR.ext (by assumption) (by repeat (first | assumption | exact Ext.refl _ | refine Ext.alloc ?_ _ | refine Ext.drew ?_ | refine Ext.setB ?_ (by first | omega | (simp only [size_alloc, size_setB, size_drew]; omega)) _ | exact Ext.trans (by assumption) (by assumption) | refine Ext.trans ?_ (by assumption)))) (by omega)) ?_)
          rintro _ w166_24 ⟨hE166_24, s166_24, rfl, hN166_24⟩
          have hz166_24 := hE166_24.1
          try simp only [size_alloc, size_setB, size_drew] at hz166_24
          refine WO_p (PS_fieldAddr 1 Hvac.runUnderlying95 rfl Hvac.sizeOf90 rfl rfl) ?_
          refine WO_store1 Hvac.sizeOf90 rfl (v := (.slice _ _ _)) rfl (Hb.h (by repeat (first | assumption | exact Hb.newY _ _ | refine Hb.alloc ?_ | refine Hb.drew ?_ | refine Hb.ext (by assumption) ?_ | exact Hb.setSameL (by first | omega | (simp only [size_alloc, size_setB, size_drew]; omega)) | exact Hb.setSame (by assumption) | refine Hb.set (by first | omega | (simp only [size_alloc, size_setB, size_drew]; omega)) ?_ ))) rfl (by first | omega | assumption | rfl | decide | exact Nat.le_refl _ | (simp only [size_ic, Value.cells]; omega) | (simp [encWs]; done) | (simp; omega) | simp | exact encYA_sz (by assumption) | exact encYT_sz (by assumption) | exact encYM_sz (by assumption)) rfl ?_
          refine WO_nil ?_
          refine thn_normal ?_
          exact ⟨{ y with accts := (pA, n, n), warmA := s166_24 }, ⟨rfl, rfl, rfl, trivial⟩, (by repeat (first | assumption | exact Ext.refl _ | refine Ext.alloc ?_ _ | refine Ext.drew ?_ | refine Ext.setB ?_ (by first | omega | (simp only [size_alloc, size_setB, size_drew]; omega)) _ | exact Ext.trans (by assumption) (by assumption) | refine Ext.trans ?_ (by assumption))), Hb.mk (Hb.h (by repeat (first | assumption | exact Hb.newY _ _ | refine Hb.alloc ?_ | refine Hb.drew ?_ | refine Hb.ext (by assumption) ?_ | exact Hb.setSameL (by first | omega | (simp only [size_alloc, size_setB, size_drew]; omega)) | exact Hb.setSame (by assumption) | refine Hb.set (by first | omega | (simp only [size_alloc, size_setB, size_drew]; omega)) ?_ ))), Hb.mk (Hb.h (by repeat (first | assumption | exact Hb.newY _ _ | refine Hb.alloc ?_ | refine Hb.drew ?_ | refine Hb.ext (by assumption) ?_ | exact Hb.setSameL (by first | omega | (simp only [size_alloc, size_setB, size_drew]; omega)) | exact Hb.setSame (by assumption) | refine Hb.set (by first | omega | (simp only [size_alloc, size_setB, size_drew]; omega)) ?_ ))), CF.set (CF.f2 (CF.ext (CF.f1 hCF5 ⟨K, hFL5.pl hO (by omega), by have h9 := hKR5; rwa [List.take_of_length_le (by omega)] at h9⟩) (by repeat (first | assumption | exact Ext.refl _ | refine Ext.alloc ?_ _ | refine Ext.drew ?_ | refine Ext.setB ?_ (by first | omega | (simp only [size_alloc, size_setB, size_drew]; omega)) _ | exact Ext.trans (by assumption) (by assumption) | refine Ext.trans ?_ (by assumption)))) (by assumption)) (Hb.mk (Hb.h (by repeat (first | assumption | exact Hb.newY _ _ | refine Hb.alloc ?_ | refine Hb.drew ?_ | refine Hb.ext (by assumption) ?_ | exact Hb.setSameL (by first | omega | (simp only [size_alloc, size_setB, size_drew]; omega)) | exact Hb.setSame (by assumption) | refine Hb.set (by first | omega | (simp only [size_alloc, size_setB, size_drew]; omega)) ?_ )))) (used_95 _), hys, hyt⟩
        · rintro ρ18 w18 ⟨y18', hFr18, hE18, hb218, hb318, hCF18, hys18, hyt18⟩
          refine W_env _ hFr18 ?_
          have hz18 := hE18.1
          have hb2l18 := hb218.lt
          have hb3l18 := hb318.lt
          have hS18 := hS.ext hE18
          have hWl18 : (encWs y18').toArray.size = 8 := rfl
          refine W_seqJ (fun ρ w' => ∃ y', Fr [(0, .pointer (some ⟨S, 0, none⟩)), (2, .pointer (some ⟨b2, 0, none⟩)), (3, .pointer (some ⟨b3, 0, none⟩))] ρ ∧ Ext w w' ∧ Hb w' b2 (.cells (encWs ⟨(none, 0, 0), (none, 0, 0), (none, 0, 0), (none, 0, 0), (none, 0, 0), (none, 0, 0), (none, 0, 0), (none, 0, 0)⟩).toArray 95 (0, 0)) ∧ Hb w' b3 (.cells (encWs y').toArray 95 (0, 0)) ∧ CF w' y' q 3 ∧ y'.warmS = (none, 0, 0) ∧ y'.temps = (none, 0, 0)) ?_ ?_
          · skip
            refine W_region rfl ?_
            refine WO_p (PS_move_ptr rfl) ?_
            refine WO_p (PS_nilCheck rfl) ?_
            refine WO_p (PS_fieldAddr 6 Hvac.runUnderlying95 rfl Hvac.sizeOf90 rfl rfl) ?_
            refine WO_load (.slice _ _ _) Hvac.isAgg90 rfl (Hb.h (by repeat (first | assumption | exact Hb.newY _ _ | refine Hb.alloc ?_ | refine Hb.drew ?_ | refine Hb.ext (by assumption) ?_ | exact Hb.setSameL (by first | omega | (simp only [size_alloc, size_setB, size_drew]; omega)) | exact Hb.setSame (by assumption) | refine Hb.set (by first | omega | (simp only [size_alloc, size_setB, size_drew]; omega)) ?_ ))) (Ce.h (by first | assumption | exact ⟨rfl⟩)) ?_
            refine WO_call Hvac.call166 (by rfl) (Ret.mono (yAddrsOf_spec _ (OmB.ext hO (by repeat (first | assumption | exact Ext.refl _ | refine Ext.alloc ?_ _ | refine Ext.drew ?_ | refine Ext.setB ?_ (by first | omega | (simp only [size_alloc, size_setB, size_drew]; omega)) _ | exact Ext.trans (by assumption) (by assumption) | refine Ext.trans ?_ (by assumption)))) _ _ _ _ (by first | assumption | exact AdR.ext (by assumption) (by repeat (first | assumption | exact Ext.refl _ | refine Ext.alloc ?_ _ | refine Ext.drew ?_ | refine Ext.setB ?_ (by first | omega | (simp only [size_alloc, size_setB, size_drew]; omega)) _ | exact Ext.trans (by assumption) (by assumption) | refine Ext.trans ?_ (by assumption)))) (by omega)) ?_)
            rintro _ w166_25 ⟨hE166_25, s166_25, rfl, hN166_25⟩
            have hz166_25 := hE166_25.1
            try simp only [size_alloc, size_setB, size_drew] at hz166_25
            refine WO_p (PS_fieldAddr 6 Hvac.runUnderlying95 rfl Hvac.sizeOf90 rfl rfl) ?_
            refine WO_store1 Hvac.sizeOf90 rfl (v := (.slice _ _ _)) rfl (Hb.h (by repeat (first | assumption | exact Hb.newY _ _ | refine Hb.alloc ?_ | refine Hb.drew ?_ | refine Hb.ext (by assumption) ?_ | exact Hb.setSameL (by first | omega | (simp only [size_alloc, size_setB, size_drew]; omega)) | exact Hb.setSame (by assumption) | refine Hb.set (by first | omega | (simp only [size_alloc, size_setB, size_drew]; omega)) ?_ ))) rfl (by first | omega | assumption | rfl | decide | exact Nat.le_refl _ | (simp only [size_ic, Value.cells]; omega) | (simp [encWs]; done) | (simp; omega) | simp | exact encYA_sz (by assumption) | exact encYT_sz (by assumption) | exact encYM_sz (by assumption)) rfl ?_
            refine WO_nil ?_
            refine thn_normal ?_
            exact ⟨{ y18' with made := s166_25 }, ⟨rfl, rfl, rfl, trivial⟩, (by repeat (first | assumption | exact Ext.refl _ | refine Ext.alloc ?_ _ | refine Ext.drew ?_ | refine Ext.setB ?_ (by first | omega | (simp only [size_alloc, size_setB, size_drew]; omega)) _ | exact Ext.trans (by assumption) (by assumption) | refine Ext.trans ?_ (by assumption))), Hb.mk (Hb.h (by repeat (first | assumption | exact Hb.newY _ _ | refine Hb.alloc ?_ | refine Hb.drew ?_ | refine Hb.ext (by assumption) ?_ | exact Hb.setSameL (by first | omega | (simp only [size_alloc, size_setB, size_drew]; omega)) | exact Hb.setSame (by assumption) | refine Hb.set (by first | omega | (simp only [size_alloc, size_setB, size_drew]; omega)) ?_ ))), Hb.mk (Hb.h (by repeat (first | assumption | exact Hb.newY _ _ | refine Hb.alloc ?_ | refine Hb.drew ?_ | refine Hb.ext (by assumption) ?_ | exact Hb.setSameL (by first | omega | (simp only [size_alloc, size_setB, size_drew]; omega)) | exact Hb.setSame (by assumption) | refine Hb.set (by first | omega | (simp only [size_alloc, size_setB, size_drew]; omega)) ?_ ))), CF.set (CF.f3 (CF.ext hCF18 (by repeat (first | assumption | exact Ext.refl _ | refine Ext.alloc ?_ _ | refine Ext.drew ?_ | refine Ext.setB ?_ (by first | omega | (simp only [size_alloc, size_setB, size_drew]; omega)) _ | exact Ext.trans (by assumption) (by assumption) | refine Ext.trans ?_ (by assumption)))) (by assumption)) (Hb.mk (Hb.h (by repeat (first | assumption | exact Hb.newY _ _ | refine Hb.alloc ?_ | refine Hb.drew ?_ | refine Hb.ext (by assumption) ?_ | exact Hb.setSameL (by first | omega | (simp only [size_alloc, size_setB, size_drew]; omega)) | exact Hb.setSame (by assumption) | refine Hb.set (by first | omega | (simp only [size_alloc, size_setB, size_drew]; omega)) ?_ )))) (used_95 _), hys18, hyt18⟩
          · rintro ρ19 w19 ⟨y19', hFr19, hE19, hb219, hb319, hCF19, hys19, hyt19⟩
            refine W_env _ hFr19 ?_
            have hz19 := hE19.1
            have hb2l19 := hb219.lt
            have hb3l19 := hb319.lt
            have hS19 := hS.ext hE19
            have hWl19 : (encWs y19').toArray.size = 8 := rfl
            refine W_seqJ (fun ρ w' => ∃ y', Fr [(0, .pointer (some ⟨S, 0, none⟩)), (2, .pointer (some ⟨b2, 0, none⟩)), (3, .pointer (some ⟨b3, 0, none⟩))] ρ ∧ Ext w w' ∧ Hb w' b2 (.cells (encWs ⟨(none, 0, 0), (none, 0, 0), (none, 0, 0), (none, 0, 0), (none, 0, 0), (none, 0, 0), (none, 0, 0), (none, 0, 0)⟩).toArray 95 (0, 0)) ∧ Hb w' b3 (.cells (encWs y').toArray 95 (0, 0)) ∧ CF w' y' q 4 ∧ y'.warmS = (none, 0, 0) ∧ y'.temps = (none, 0, 0)) ?_ ?_
            · skip
              refine W_region rfl ?_
              refine WO_p (PS_move_ptr rfl) ?_
              refine WO_p (PS_nilCheck rfl) ?_
              refine WO_p (PS_fieldAddr 7 Hvac.runUnderlying95 rfl Hvac.sizeOf90 rfl rfl) ?_
              refine WO_load (.slice _ _ _) Hvac.isAgg90 rfl (Hb.h (by repeat (first | assumption | exact Hb.newY _ _ | refine Hb.alloc ?_ | refine Hb.drew ?_ | refine Hb.ext (by assumption) ?_ | exact Hb.setSameL (by first | omega | (simp only [size_alloc, size_setB, size_drew]; omega)) | exact Hb.setSame (by assumption) | refine Hb.set (by first | omega | (simp only [size_alloc, size_setB, size_drew]; omega)) ?_ ))) (Ce.h (by first | assumption | exact ⟨rfl⟩)) ?_
              refine WO_call Hvac.call166 (by rfl) (Ret.mono (yAddrsOf_spec _ (OmB.ext hO (by repeat (first | assumption | exact Ext.refl _ | refine Ext.alloc ?_ _ | refine Ext.drew ?_ | refine Ext.setB ?_ (by first | omega | (simp only [size_alloc, size_setB, size_drew]; omega)) _ | exact Ext.trans (by assumption) (by assumption) | refine Ext.trans ?_ (by assumption)))) _ _ _ _ (by first | assumption | exact AdR.ext (by assumption) (by repeat (first | assumption | exact Ext.refl _ | refine Ext.alloc ?_ _ | refine Ext.drew ?_ | refine Ext.setB ?_ (by first | omega | (simp only [size_alloc, size_setB, size_drew]; omega)) _ | exact Ext.trans (by assumption) (by assumption) | refine Ext.trans ?_ (by assumption)))) (by omega)) ?_)
              rintro _ w166_26 ⟨hE166_26, s166_26, rfl, hN166_26⟩
              have hz166_26 := hE166_26.1
              try simp only [size_alloc, size_setB, size_drew] at hz166_26
              refine WO_p (PS_fieldAddr 7 Hvac.runUnderlying95 rfl Hvac.sizeOf90 rfl rfl) ?_
              refine WO_store1 Hvac.sizeOf90 rfl (v := (.slice _ _ _)) rfl (Hb.h (by repeat (first | assumption | exact Hb.newY _ _ | refine Hb.alloc ?_ | refine Hb.drew ?_ | refine Hb.ext (by assumption) ?_ | exact Hb.setSameL (by first | omega | (simp only [size_alloc, size_setB, size_drew]; omega)) | exact Hb.setSame (by assumption) | refine Hb.set (by first | omega | (simp only [size_alloc, size_setB, size_drew]; omega)) ?_ ))) rfl (by first | omega | assumption | rfl | decide | exact Nat.le_refl _ | (simp only [size_ic, Value.cells]; omega) | (simp [encWs]; done) | (simp; omega) | simp | exact encYA_sz (by assumption) | exact encYT_sz (by assumption) | exact encYM_sz (by assumption)) rfl ?_
              refine WO_nil ?_
              refine thn_normal ?_
              exact ⟨{ y19' with gone := s166_26 }, ⟨rfl, rfl, rfl, trivial⟩, (by repeat (first | assumption | exact Ext.refl _ | refine Ext.alloc ?_ _ | refine Ext.drew ?_ | refine Ext.setB ?_ (by first | omega | (simp only [size_alloc, size_setB, size_drew]; omega)) _ | exact Ext.trans (by assumption) (by assumption) | refine Ext.trans ?_ (by assumption))), Hb.mk (Hb.h (by repeat (first | assumption | exact Hb.newY _ _ | refine Hb.alloc ?_ | refine Hb.drew ?_ | refine Hb.ext (by assumption) ?_ | exact Hb.setSameL (by first | omega | (simp only [size_alloc, size_setB, size_drew]; omega)) | exact Hb.setSame (by assumption) | refine Hb.set (by first | omega | (simp only [size_alloc, size_setB, size_drew]; omega)) ?_ ))), Hb.mk (Hb.h (by repeat (first | assumption | exact Hb.newY _ _ | refine Hb.alloc ?_ | refine Hb.drew ?_ | refine Hb.ext (by assumption) ?_ | exact Hb.setSameL (by first | omega | (simp only [size_alloc, size_setB, size_drew]; omega)) | exact Hb.setSame (by assumption) | refine Hb.set (by first | omega | (simp only [size_alloc, size_setB, size_drew]; omega)) ?_ ))), CF.set (CF.f4 (CF.ext hCF19 (by repeat (first | assumption | exact Ext.refl _ | refine Ext.alloc ?_ _ | refine Ext.drew ?_ | refine Ext.setB ?_ (by first | omega | (simp only [size_alloc, size_setB, size_drew]; omega)) _ | exact Ext.trans (by assumption) (by assumption) | refine Ext.trans ?_ (by assumption)))) (by assumption)) (Hb.mk (Hb.h (by repeat (first | assumption | exact Hb.newY _ _ | refine Hb.alloc ?_ | refine Hb.drew ?_ | refine Hb.ext (by assumption) ?_ | exact Hb.setSameL (by first | omega | (simp only [size_alloc, size_setB, size_drew]; omega)) | exact Hb.setSame (by assumption) | refine Hb.set (by first | omega | (simp only [size_alloc, size_setB, size_drew]; omega)) ?_ )))) (used_95 _), hys19, hyt19⟩
            · rintro ρ20 w20 ⟨y20', hFr20, hE20, hb220, hb320, hCF20, hys20, hyt20⟩
              refine W_env _ hFr20 ?_
              have hz20 := hE20.1
              have hb2l20 := hb220.lt
              have hb3l20 := hb320.lt
              have hS20 := hS.ext hE20
              have hWl20 : (encWs y20').toArray.size = 8 := rfl
              refine W_seqJ (fun ρ w' => ∃ pT, Fr [(0, .pointer (some ⟨S, 0, none⟩)), (2, .pointer (some ⟨b2, 0, none⟩)), (3, .pointer (some ⟨b3, 0, none⟩))] ρ ∧ Ext w w' ∧ Hb w' b2 (.cells (encWs ⟨(none, 0, 0), (none, 0, 0), (none, 0, 0), (none, 0, 0), (none, 0, 0), (none, 0, 0), (none, 0, 0), (none, 0, 0)⟩).toArray 95 (0, 0)) ∧ Hb w' b3 (.cells (encWs { y20' with temps := (pT, ntemps, ntemps) }).toArray 95 (0, 0)) ∧ CF w' { y20' with temps := (pT, ntemps, ntemps) } q 4 ∧ FL encYT 22 254 w [b3, b2] w' (pT, ntemps, ntemps) ntemps ([] : List YTp)) ?_ ?_
              · skip
                refine W_seq ?_
                refine W_region rfl ?_
                refine WO_p (PS_move_ptr rfl) ?_
                refine WO_p (PS_nilCheck rfl) ?_
                refine WO_p (PS_fieldAddr 5 Hvac.runUnderlying95 rfl Hvac.sizeOf93 rfl rfl) ?_
                refine WO_load (.slice _ _ _) Hvac.isAgg93 rfl (Hb.h (by repeat (first | assumption | exact Hb.newY _ _ | refine Hb.alloc ?_ | refine Hb.drew ?_ | refine Hb.ext (by assumption) ?_ | exact Hb.setSameL (by first | omega | (simp only [size_alloc, size_setB, size_drew]; omega)) | exact Hb.setSame (by assumption) | refine Hb.set (by first | omega | (simp only [size_alloc, size_setB, size_drew]; omega)) ?_ ))) (Ce.h (by first | assumption | exact ⟨rfl⟩)) ?_
                refine WO_p (PS_neqslnil Hvac.underlying93 rfl) ?_
                refine WO_nil ?_
                refine thn_normal ?_
                refine W_if rfl (fun hb29 => ?_) (fun hb29 => ?_)
                · have hb29p := hb29.h; try simp only [al_ete, al_dfn, Bool.not_eq_true', Bool.not_eq_false', al_ne, Bool.not_not, al_nn] at hb29p
                  refine W_region rfl ?_
                  refine WO_p (PS_move_ptr rfl) ?_
                  refine WO_p (PS_nilCheck rfl) ?_
                  refine WO_p (PS_fieldAddr 5 Hvac.runUnderlying95 rfl Hvac.sizeOf93 rfl rfl) ?_
                  refine WO_load (.slice _ _ _) Hvac.isAgg93 rfl (Hb.h (by repeat (first | assumption | exact Hb.newY _ _ | refine Hb.alloc ?_ | refine Hb.drew ?_ | refine Hb.ext (by assumption) ?_ | exact Hb.setSameL (by first | omega | (simp only [size_alloc, size_setB, size_drew]; omega)) | exact Hb.setSame (by assumption) | refine Hb.set (by first | omega | (simp only [size_alloc, size_setB, size_drew]; omega)) ?_ ))) (Ce.h (by first | assumption | exact ⟨rfl⟩)) ?_
                  refine WO_p (PS_lenS Hvac.runUnderlying93 rfl) ?_
                  refine WO_make (z := .agg (encYT ⟨List.replicate 20 0, (none, 0, 0), (none, 0, 0)⟩).toArray) Hvac.underlying93 info254 rfl rfl rfl (by omega) (by omega) (by show ((72 : Nat) : Int) * _ ≤ _; omega) (by omega) ?_
                  rw [show ((ntemps : Int)).toNat = ntemps from Int.toNat_natCast _]
                  refine WO_p (PS_fieldAddr 5 Hvac.runUnderlying95 rfl Hvac.sizeOf93 rfl rfl) ?_
                  refine WO_store1 Hvac.sizeOf93 rfl (v := (.slice _ _ _)) rfl (Hb.h (by repeat (first | assumption | exact Hb.newY _ _ | refine Hb.alloc ?_ | refine Hb.drew ?_ | refine Hb.ext (by assumption) ?_ | exact Hb.setSameL (by first | omega | (simp only [size_alloc, size_setB, size_drew]; omega)) | exact Hb.setSame (by assumption) | refine Hb.set (by first | omega | (simp only [size_alloc, size_setB, size_drew]; omega)) ?_ ))) rfl (by first | omega | assumption | rfl | decide | exact Nat.le_refl _ | (simp only [size_ic, Value.cells]; omega) | (simp [encWs]; done) | (simp; omega) | simp | exact encYA_sz (by assumption) | exact encYT_sz (by assumption) | exact encYM_sz (by assumption)) rfl ?_
                  refine WO_nil ?_
                  refine thn_normal ?_
                  exact ⟨some ⟨_, 0, none⟩, ⟨rfl, rfl, rfl, trivial⟩, (by repeat (first | assumption | exact Ext.refl _ | refine Ext.alloc ?_ _ | refine Ext.drew ?_ | refine Ext.setB ?_ (by first | omega | (simp only [size_alloc, size_setB, size_drew]; omega)) _ | exact Ext.trans (by assumption) (by assumption) | refine Ext.trans ?_ (by assumption))), Hb.mk (Hb.h (by repeat (first | assumption | exact Hb.newY _ _ | refine Hb.alloc ?_ | refine Hb.drew ?_ | refine Hb.ext (by assumption) ?_ | exact Hb.setSameL (by first | omega | (simp only [size_alloc, size_setB, size_drew]; omega)) | exact Hb.setSame (by assumption) | refine Hb.set (by first | omega | (simp only [size_alloc, size_setB, size_drew]; omega)) ?_ ))), Hb.mk (Hb.h (by repeat (first | assumption | exact Hb.newY _ _ | refine Hb.alloc ?_ | refine Hb.drew ?_ | refine Hb.ext (by assumption) ?_ | exact Hb.setSameL (by first | omega | (simp only [size_alloc, size_setB, size_drew]; omega)) | exact Hb.setSame (by assumption) | refine Hb.set (by first | omega | (simp only [size_alloc, size_setB, size_drew]; omega)) ?_ ))), CF.set (CF.g4 (CF.ext hCF20 (by repeat (first | assumption | exact Ext.refl _ | refine Ext.alloc ?_ _ | refine Ext.drew ?_ | refine Ext.setB ?_ (by first | omega | (simp only [size_alloc, size_setB, size_drew]; omega)) _ | exact Ext.trans (by assumption) (by assumption) | refine Ext.trans ?_ (by assumption))))) (Hb.mk (Hb.h (by repeat (first | assumption | exact Hb.newY _ _ | refine Hb.alloc ?_ | refine Hb.drew ?_ | refine Hb.ext (by assumption) ?_ | exact Hb.setSameL (by first | omega | (simp only [size_alloc, size_setB, size_drew]; omega)) | exact Hb.setSame (by assumption) | refine Hb.set (by first | omega | (simp only [size_alloc, size_setB, size_drew]; omega)) ?_ )))) (used_95 _), FL.set (FL.made (Hb.newY _ _) (size_madeCells _ _) (by first | omega | (simp only [size_alloc, size_setB, size_drew]; omega)) (by simp; omega)) (Or.inl (by simp)) _⟩
                · have hb29p := hb29.h; try simp only [al_ete, al_dfn, Bool.not_eq_true', Bool.not_eq_false', al_ne, Bool.not_not, al_nn] at hb29p
                  have hpz5 : pt5 = none := by simpa using hb29p
                  have hm05 : ntemps = 0 := by
                    rcases Nat.eq_zero_or_pos ntemps with h0 | h0
                    · exact h0
                    · obtain ⟨b, r, fz, h1, _⟩ := hPT.at_ h0
                      rw [hpz5] at h1; cases h1
                  refine W_skip ?_
                  refine thn_normal ?_
                  subst hm05; exact ⟨none, ⟨rfl, rfl, rfl, trivial⟩, (by repeat (first | assumption | exact Ext.refl _ | refine Ext.alloc ?_ _ | refine Ext.drew ?_ | refine Ext.setB ?_ (by first | omega | (simp only [size_alloc, size_setB, size_drew]; omega)) _ | exact Ext.trans (by assumption) (by assumption) | refine Ext.trans ?_ (by assumption))), Hb.mk (Hb.h (by repeat (first | assumption | exact Hb.newY _ _ | refine Hb.alloc ?_ | refine Hb.drew ?_ | refine Hb.ext (by assumption) ?_ | exact Hb.setSameL (by first | omega | (simp only [size_alloc, size_setB, size_drew]; omega)) | exact Hb.setSame (by assumption) | refine Hb.set (by first | omega | (simp only [size_alloc, size_setB, size_drew]; omega)) ?_ ))), by rw [← hyt20]; exact Hb.mk (Hb.h (by repeat (first | assumption | exact Hb.newY _ _ | refine Hb.alloc ?_ | refine Hb.drew ?_ | refine Hb.ext (by assumption) ?_ | exact Hb.setSameL (by first | omega | (simp only [size_alloc, size_setB, size_drew]; omega)) | exact Hb.setSame (by assumption) | refine Hb.set (by first | omega | (simp only [size_alloc, size_setB, size_drew]; omega)) ?_ ))), by rw [← hyt20]; exact CF.ext hCF20 (by repeat (first | assumption | exact Ext.refl _ | refine Ext.alloc ?_ _ | refine Ext.drew ?_ | refine Ext.setB ?_ (by first | omega | (simp only [size_alloc, size_setB, size_drew]; omega)) _ | exact Ext.trans (by assumption) (by assumption) | refine Ext.trans ?_ (by assumption))), FL.nil _ _ _ _ _ _⟩
              · rintro ρ22 w22 ⟨p22, hFr22, hE22, hb222, hb322, hCF22, hFL22⟩
                refine W_env _ hFr22 ?_
                have hz22 := hE22.1
                have hb2l22 := hb222.lt
                have hb3l22 := hb322.lt
                have hS22 := hS.ext hE22
                refine W_seq ?_
                refine W_seq ?_
                refine W_region rfl ?_
                refine WO_p (PS_move_ptr rfl) ?_
                refine WO_p (PS_nilCheck rfl) ?_
                refine WO_p (PS_fieldAddr 5 Hvac.runUnderlying95 rfl Hvac.sizeOf93 rfl rfl) ?_
                refine WO_load (.slice _ _ _) Hvac.isAgg93 rfl (Hb.h (by repeat (first | assumption | exact Hb.newY _ _ | refine Hb.alloc ?_ | refine Hb.drew ?_ | refine Hb.ext (by assumption) ?_ | exact Hb.setSameL (by first | omega | (simp only [size_alloc, size_setB, size_drew]; omega)) | exact Hb.setSame (by assumption) | refine Hb.set (by first | omega | (simp only [size_alloc, size_setB, size_drew]; omega)) ?_ ))) (Ce.h (by first | assumption | exact ⟨rfl⟩)) ?_
                refine WO_p (PS_lenS Hvac.runUnderlying93 rfl) ?_
                refine WO_p (PS_move_int rfl) ?_
                refine WO_nil ?_
                refine thn_normal ?_
                refine W_block ?_
                refine W_loopN (fun k9 ρ w' => ∃ (i2 : Nat) (K3 : List YTp), i2 + k9 = ntemps ∧ K3.length = i2 ∧ FL encYT 22 254 w [b3, b2] w' (p22, ntemps, ntemps) ntemps K3 ∧ R2 (TpR w') K3 (q.temps.take i2) ∧ CF w' { y20' with temps := (p22, ntemps, ntemps) } q 4 ∧ Fr [(0, .pointer (some ⟨S, 0, none⟩)), (2, .pointer (some ⟨b2, 0, none⟩)), (3, .pointer (some ⟨b3, 0, none⟩)), (125, .slice pt5 ntemps ct5), (126, .int .i64 ntemps), (127, .int .i64 i2)] ρ ∧ Ext w w' ∧ Hb w' b3 (.cells (encWs { y20' with temps := (p22, ntemps, ntemps) }).toArray 95 (0, 0)) ∧ Hb w' b2 (.cells (encWs ⟨(none, 0, 0), (none, 0, 0), (none, 0, 0), (none, 0, 0), (none, 0, 0), (none, 0, 0), (none, 0, 0), (none, 0, 0)⟩).toArray 95 (0, 0))) ntemps ?_ ?_
                · exact ⟨0, [], by omega, rfl, hFL22, R2.nil _, hCF22, ⟨rfl, rfl, rfl, rfl, rfl, rfl, trivial⟩, (by repeat (first | assumption | exact Ext.refl _ | refine Ext.alloc ?_ _ | refine Ext.drew ?_ | refine Ext.setB ?_ (by first | omega | (simp only [size_alloc, size_setB, size_drew]; omega)) _ | refine Ext.trans ?_ (by assumption))), hb322, hb222⟩
                intro k50 ρ50 w50 hI50
                obtain ⟨i2, K3, hik2, hK3, hFLT, hKT3, hCFT, hFr50, hE50, hb350, hb250⟩ := hI50
                refine W_env _ hFr50 ?_
                have hz50 := hE50.1
                have hb350_l := hb350.lt
                have hb250_l := hb250.lt
                refine W_seq ?_
                refine W_region rfl ?_
                refine WO_p (PS_lss rfl rfl) ?_
                refine WO_nil ?_
                refine thn_normal ?_
                refine W_seq ?_
                refine W_if rfl (fun hb31 => ?_) (fun hb31 => ?_)
                · have hb31p := hb31.h; try simp only [al_ete, al_dfn, Bool.not_eq_true', Bool.not_eq_false', al_ne, Bool.not_not, al_nn] at hb31p
                  obtain ⟨x4, y4, hx4, hy4, hxy4⟩ := hRT.get (i := i2) (by omega)
                  have hxl4 : x4.addr.length = 20 := by rw [hxy4.addr]; exact hxy4.ab.1
                  have hxE4 := encYT_len hxl4
                  obtain ⟨bs4, rs4, fzs4, hp4, hbs4, hrs4, hXi4⟩ := pl_at (hPT.ext hE50) hx4 hxE4
                  subst hp4
                  have hX4 := encYT_addr hxl4
                  have hq41 := encYT_1 hxl4
                  have hq42 := encYT_2 hxl4
                  have hsz4 := encYT_sz hxl4
                  have hv41 := hxy4.key.ext hE50
                  have hv42 := hxy4.val.ext hE50
                  have hv41z := hxy4.kz
                  have hv42z := hxy4.vz
                  obtain ⟨bT, rT, hpT9, hbT0, hbTX, hbT, hrT5, hRTT⟩ := hFLT.row (by omega)
                  dsimp only at hpT9
                  subst hpT9
                  have hbTl := hbT.lt
                  have hTb : 0 + i2 * 22 + 22 ≤ rT.size := by rw [hrT5]; have := Nat.mul_le_mul_right 22 (show i2 + 1 ≤ ntemps by omega); omega
                  have hbTne3 : bT ≠ b3 := by intro e; apply hbTX; simp [e]
                  have hbTne2 : bT ≠ b2 := by intro e; apply hbTX; simp [e]
                  refine W_skip ?_
                  refine thn_normal ?_
                  refine W_seq ?_
                  refine W_block ?_
                  refine W_seq ?_
                  refine W_region rfl ?_
                  refine WO_p (PS_move_int rfl) ?_
                  refine WO_p (PS_indexS Hvac.runUnderlying93 Hvac.sizeOf254 rfl rfl (by omega) (by omega)) ?_
                  refine WO_loadA _ Hvac.isAgg254 Hvac.sizeOf254 rfl (Hb.h (by repeat (first | assumption | exact Hb.newY _ _ | refine Hb.alloc ?_ | refine Hb.drew ?_ | refine Hb.ext (by assumption) ?_ | exact Hb.setSameL (by first | omega | (simp only [size_alloc, size_setB, size_drew]; omega)) | exact Hb.setSame (by assumption) | refine Hb.set (by first | omega | (simp only [size_alloc, size_setB, size_drew]; omega)) ?_ ))) (by first | omega | assumption | rfl | decide | exact Nat.le_refl _ | (simp only [size_ic, Value.cells]; omega) | (simp [encWs]; done) | (simp; omega) | simp | exact encYA_sz (by assumption) | exact encYT_sz (by assumption) | exact encYM_sz (by assumption)) (Xt.h (by first | assumption | exact Xt.whole rfl rfl | exact Xt.whole rfl (by assumption) | exact Xt.whole rfl (by simp only [size_ic, Value.cells]; omega) | exact ⟨rfl⟩)) ?_
                  refine WO_allocG Hvac.zeroValue254 ?_
                  intro b10 v10 hg10 hE10 hH10 hl10
                  try simp only [size_alloc, size_setB, size_drew] at hg10
                  have hzz10 := hE10.1
                  try simp only [size_alloc, size_setB, size_drew] at hzz10
                  replace hH10 : Hb v10 b10 (.cells ((encYT ⟨List.replicate 20 0, (none, 0, 0), (none, 0, 0)⟩).toArray) 254 (0, 0)) := hH10
                  refine WO_p (PS_assign_int rfl) ?_
                  first | refine WO_storeW Hvac.sizeOf254 rfl (v := .agg _) rfl (Hb.h (by repeat (first | assumption | exact Hb.newY _ _ | refine Hb.alloc ?_ | refine Hb.drew ?_ | refine Hb.ext (by assumption) ?_ | exact Hb.setSameL (by first | omega | (simp only [size_alloc, size_setB, size_drew]; omega)) | exact Hb.setSame (by assumption) | refine Hb.set (by first | omega | (simp only [size_alloc, size_setB, size_drew]; omega)) ?_ ))) rfl (by first | omega | assumption | rfl | decide | exact Nat.le_refl _ | (simp only [size_ic, Value.cells]; omega) | (simp [encWs]; done) | (simp; omega) | simp | exact encYA_sz (by assumption) | exact encYT_sz (by assumption) | exact encYM_sz (by assumption)) (by first | omega | assumption | rfl | decide | exact Nat.le_refl _ | (simp only [size_ic, Value.cells]; omega) | (simp [encWs]; done) | (simp; omega) | simp | exact encYA_sz (by assumption) | exact encYT_sz (by assumption) | exact encYM_sz (by assumption)) (by first | exact oneCell_ic | assumption | exact one_Ws2 _ | exact one_YA2 _ | exact one_YSl2 _ | exact one_YM2 _ | exact one_YT2 _ | exact one_L2 _) ?_ | refine WO_store Hvac.sizeOf254 rfl (v := .agg _) rfl (Hb.h (by repeat (first | assumption | exact Hb.newY _ _ | refine Hb.alloc ?_ | refine Hb.drew ?_ | refine Hb.ext (by assumption) ?_ | exact Hb.setSameL (by first | omega | (simp only [size_alloc, size_setB, size_drew]; omega)) | exact Hb.setSame (by assumption) | refine Hb.set (by first | omega | (simp only [size_alloc, size_setB, size_drew]; omega)) ?_ ))) (by first | omega | assumption | rfl | decide | exact Nat.le_refl _ | (simp only [size_ic, Value.cells]; omega) | (simp [encWs]; done) | (simp; omega) | simp | exact encYA_sz (by assumption) | exact encYT_sz (by assumption) | exact encYM_sz (by assumption)) (by first | omega | assumption | rfl | decide | exact Nat.le_refl _ | (simp only [size_ic, Value.cells]; omega) | (simp [encWs]; done) | (simp; omega) | simp | exact encYA_sz (by assumption) | exact encYT_sz (by assumption) | exact encYM_sz (by assumption)) (by first | exact oneCell_ic | assumption | exact one_Ws2 _ | exact one_YA2 _ | exact one_YSl2 _ | exact one_YM2 _ | exact one_YT2 _ | exact one_L2 _) ?_
                  refine WO_nil ?_
                  refine thn_normal ?_
                  refine W_drawE [false, false, false, false, false, false, false, true, false, false, true, false, false, false] hmix (by kernel_rfl) rfl ?_
                  refine WH_p (PS_fieldAddr 5 Hvac.runUnderlying95 rfl Hvac.sizeOf93 rfl rfl) rfl ?_
                  refine WH_load (.slice _ _ _) Hvac.isAgg93 rfl (Hb.h (by repeat (first | assumption | exact Hb.newY _ _ | refine Hb.alloc ?_ | refine Hb.drew ?_ | refine Hb.ext (by assumption) ?_ | exact Hb.setSameL (by first | omega | (simp only [size_alloc, size_setB, size_drew]; omega)) | exact Hb.setSame (by assumption) | refine Hb.set (by first | omega | (simp only [size_alloc, size_setB, size_drew]; omega)) ?_ ))) (Ce.h (by first | assumption | exact ⟨rfl⟩)) ?_
                  refine WH_p (PS_move_int rfl) rfl ?_
                  refine WH_p (PS_fieldAddr 0 Hvac.runUnderlying254 rfl Hvac.sizeOf25 rfl rfl) rfl ?_
                  refine WH_loadA _ Hvac.isAgg25 Hvac.sizeOf25 rfl (Hb.h (by repeat (first | assumption | exact Hb.newY _ _ | refine Hb.alloc ?_ | refine Hb.drew ?_ | refine Hb.ext (by assumption) ?_ | exact Hb.setSameL (by first | omega | (simp only [size_alloc, size_setB, size_drew]; omega)) | exact Hb.setSame (by assumption) | refine Hb.set (by first | omega | (simp only [size_alloc, size_setB, size_drew]; omega)) ?_ ))) (by first | omega | assumption | rfl | decide | exact Nat.le_refl _ | (simp only [size_ic, Value.cells]; omega) | (simp [encWs]; done) | (simp; omega) | simp | exact encYA_sz (by assumption) | exact encYT_sz (by assumption) | exact encYM_sz (by assumption)) (Xt.h (by first | assumption | exact Xt.whole rfl rfl | exact Xt.whole rfl (by assumption) | exact Xt.whole rfl (by simp only [size_ic, Value.cells]; omega) | exact ⟨rfl⟩)) ?_
                  refine WH_p (PS_fieldAddr 20 Hvac.runUnderlying254 rfl Hvac.sizeOf92 rfl rfl) rfl ?_
                  refine WH_load (.slice _ _ _) Hvac.isAgg92 rfl (Hb.h (by repeat (first | assumption | exact Hb.newY _ _ | refine Hb.alloc ?_ | refine Hb.drew ?_ | refine Hb.ext (by assumption) ?_ | exact Hb.setSameL (by first | omega | (simp only [size_alloc, size_setB, size_drew]; omega)) | exact Hb.setSame (by assumption) | refine Hb.set (by first | omega | (simp only [size_alloc, size_setB, size_drew]; omega)) ?_ ))) (Ce.h (by first | assumption | exact ⟨rfl⟩)) ?_
                  refine WH_call Hvac.call164 (by rfl) (Ret.mono (yNatOf_spec _ (OmB.ext hO (by repeat (first | assumption | exact Ext.refl _ | refine Ext.alloc ?_ _ | refine Ext.drew ?_ | refine Ext.setB ?_ (by first | omega | (simp only [size_alloc, size_setB, size_drew]; omega)) _ | exact Ext.trans (by assumption) (by assumption) | refine Ext.trans ?_ (by assumption)))) _ _ _ _ (by first | exact NN.nil _ | assumption | exact NN.ext (by assumption) (by repeat (first | assumption | exact Ext.refl _ | refine Ext.alloc ?_ _ | refine Ext.drew ?_ | refine Ext.setB ?_ (by first | omega | (simp only [size_alloc, size_setB, size_drew]; omega)) _ | exact Ext.trans (by assumption) (by assumption) | refine Ext.trans ?_ (by assumption)))) (by first | assumption | omega | (rw [sz_zero]; omega))) ?_)
                  rintro _ w164_31 ⟨hE164_31, s164_31, rfl, hN164_31⟩
                  refine ⟨fun _ => (by repeat (first | assumption | exact Ext.refl _ | refine Ext.alloc ?_ _ | refine Ext.drew ?_ | refine Ext.setB ?_ (by first | omega | (simp only [size_alloc, size_setB, size_drew]; omega)) _ | exact Ext.trans (by assumption) (by assumption) | refine Ext.trans ?_ (by assumption))), ?_⟩
                  have hz164_31 := hE164_31.1
                  try simp only [size_alloc, size_setB, size_drew] at hz164_31
                  refine WH_p (PS_fieldAddr 21 Hvac.runUnderlying254 rfl Hvac.sizeOf92 rfl rfl) rfl ?_
                  refine WH_load (.slice _ _ _) Hvac.isAgg92 rfl (Hb.h (by repeat (first | assumption | exact Hb.newY _ _ | refine Hb.alloc ?_ | refine Hb.drew ?_ | refine Hb.ext (by assumption) ?_ | exact Hb.setSameL (by first | omega | (simp only [size_alloc, size_setB, size_drew]; omega)) | exact Hb.setSame (by assumption) | refine Hb.set (by first | omega | (simp only [size_alloc, size_setB, size_drew]; omega)) ?_ ))) (Ce.h (by first | assumption | exact ⟨rfl⟩)) ?_
                  refine WH_call Hvac.call164 (by rfl) (Ret.mono (yNatOf_spec _ (OmB.ext hO (by repeat (first | assumption | exact Ext.refl _ | refine Ext.alloc ?_ _ | refine Ext.drew ?_ | refine Ext.setB ?_ (by first | omega | (simp only [size_alloc, size_setB, size_drew]; omega)) _ | exact Ext.trans (by assumption) (by assumption) | refine Ext.trans ?_ (by assumption)))) _ _ _ _ (by first | exact NN.nil _ | assumption | exact NN.ext (by assumption) (by repeat (first | assumption | exact Ext.refl _ | refine Ext.alloc ?_ _ | refine Ext.drew ?_ | refine Ext.setB ?_ (by first | omega | (simp only [size_alloc, size_setB, size_drew]; omega)) _ | exact Ext.trans (by assumption) (by assumption) | refine Ext.trans ?_ (by assumption)))) (by first | assumption | omega | (rw [sz_zero]; omega))) ?_)
                  rintro _ w164_32 ⟨hE164_32, s164_32, rfl, hN164_32⟩
                  refine ⟨fun _ => (by repeat (first | assumption | exact Ext.refl _ | refine Ext.alloc ?_ _ | refine Ext.drew ?_ | refine Ext.setB ?_ (by first | omega | (simp only [size_alloc, size_setB, size_drew]; omega)) _ | exact Ext.trans (by assumption) (by assumption) | refine Ext.trans ?_ (by assumption))), ?_⟩
                  have hz164_32 := hE164_32.1
                  try simp only [size_alloc, size_setB, size_drew] at hz164_32
                  refine WH_p (PS_b254 (A := x4.addr) rfl hxl4 rfl rfl) rfl ?_
                  refine WH_p (PS_indexS Hvac.runUnderlying93 Hvac.sizeOf254 rfl rfl (by omega) (by omega)) rfl ?_
                  first | refine WH_storeW Hvac.sizeOf254 rfl (v := .agg _) rfl (Hb.h (by repeat (first | assumption | exact Hb.newY _ _ | refine Hb.alloc ?_ | refine Hb.drew ?_ | refine Hb.ext (by assumption) ?_ | exact Hb.setSameL (by first | omega | (simp only [size_alloc, size_setB, size_drew]; omega)) | exact Hb.setSame (by assumption) | refine Hb.set (by first | omega | (simp only [size_alloc, size_setB, size_drew]; omega)) ?_ ))) rfl (by first | omega | assumption | rfl | decide | exact Nat.le_refl _ | (simp only [size_ic, Value.cells]; omega) | (simp [encWs]; done) | (simp; omega) | simp | exact encYA_sz (by assumption) | exact encYT_sz (by assumption) | exact encYM_sz (by assumption)) (by first | omega | assumption | rfl | decide | exact Nat.le_refl _ | (simp only [size_ic, Value.cells]; omega) | (simp [encWs]; done) | (simp; omega) | simp | exact encYA_sz (by assumption) | exact encYT_sz (by assumption) | exact encYM_sz (by assumption)) (by first | exact oneCell_ic | assumption | exact one_Ws2 _ | exact one_YA2 _ | exact one_YSl2 _ | exact one_YM2 _ | exact one_YT2 _ | exact one_L2 _) (fun h => by cases h) ?_ | refine WH_store Hvac.sizeOf254 rfl (v := .agg _) rfl (Hb.h (by repeat (first | assumption | exact Hb.newY _ _ | refine Hb.alloc ?_ | refine Hb.drew ?_ | refine Hb.ext (by assumption) ?_ | exact Hb.setSameL (by first | omega | (simp only [size_alloc, size_setB, size_drew]; omega)) | exact Hb.setSame (by assumption) | refine Hb.set (by first | omega | (simp only [size_alloc, size_setB, size_drew]; omega)) ?_ ))) (by first | omega | assumption | rfl | decide | exact Nat.le_refl _ | (simp only [size_ic, Value.cells]; omega) | (simp [encWs]; done) | (simp; omega) | simp | exact encYA_sz (by assumption) | exact encYT_sz (by assumption) | exact encYM_sz (by assumption)) (by first | omega | assumption | rfl | decide | exact Nat.le_refl _ | (simp only [size_ic, Value.cells]; omega) | (simp [encWs]; done) | (simp; omega) | simp | exact encYA_sz (by assumption) | exact encYT_sz (by assumption) | exact encYM_sz (by assumption)) (by first | exact oneCell_ic | assumption | exact one_Ws2 _ | exact one_YA2 _ | exact one_YSl2 _ | exact one_YM2 _ | exact one_YT2 _ | exact one_L2 _) (fun h => by cases h) ?_
                  refine WH_nil ?_
                  refine inBlk_normal ?_
                  refine thn_normal ?_
                  refine W_region rfl ?_
                  refine WO_p (PS_add_i64n rfl rfl (by omega) (by omega)) ?_
                  refine WO_p (PS_move_int rfl) ?_
                  refine WO_nil ?_
                  refine thn_normal ?_
                  have hET : Ext w50 w164_32 := (by repeat (first | assumption | exact Ext.refl _ | refine Ext.alloc ?_ _ | refine Ext.drew ?_ | refine Ext.setB ?_ (by first | omega | (simp only [size_alloc, size_setB, size_drew]; omega)) _ | refine Ext.trans ?_ (by assumption)))
                  have hbTT := hbT.ext hET
                  have hlenT := encYT_len (x := ⟨x4.addr, s164_31, s164_32⟩) hxl4
                  refine ⟨k50 - 1, by omega, i2 + 1, K3 ++ [⟨x4.addr, s164_31, s164_32⟩], by omega, by simp; omega, (hFLT.ext hET).put hK3 (by omega) hbTT hlenT (by simp [Value.cells]), ?_, CF.set (hCFT.ext hET) hbTT used_254, ⟨rfl, rfl, rfl, rfl, rfl, congrArg (Value.int .i64) (by omega), trivial⟩, Ext.setB (hE50.trans hET) (by omega) _, Hb.set (by omega) (hb350.ext hET), Hb.set (by omega) (hb250.ext hET)⟩
                  rw [take_snoc hy4]
                  exact R2.snoc (hKT3.mono fun _ _ h => (h.ext hET).kt (KT.setB hbTT (by decide))) { addr := hxy4.addr, ab := hxy4.ab, key := (hN164_31.ext hE164_32).kt (KT.setB hbTT (by decide)), val := hN164_32.kt (KT.setB hbTT (by decide)), kz := hv41z, vz := hv42z }
                · have hb31p := hb31.h; try simp only [al_ete, al_dfn, Bool.not_eq_true', Bool.not_eq_false', al_ne, Bool.not_not, al_nn] at hb31p
                  refine W_exit ?_
                  refine thn_exit ?_
                  refine thn_exit ?_
                  refine inBlk_exit ?_
                  refine thn_normal ?_
                  refine W_seqJ (fun ρ w' => ∃ pT, Fr [(0, .pointer (some ⟨S, 0, none⟩)), (2, .pointer (some ⟨b2, 0, none⟩)), (3, .pointer (some ⟨b3, 0, none⟩))] ρ ∧ Ext w w' ∧ Hb w' b2 (.cells (encWs ⟨(none, 0, 0), (none, 0, 0), (none, 0, 0), (none, 0, 0), (none, 0, 0), (none, 0, 0), (none, 0, 0), (none, 0, 0)⟩).toArray 95 (0, 0)) ∧ Hb w' b3 (.cells (encWs { { y20' with temps := (p22, ntemps, ntemps) } with warmS := (pT, nwarmS, nwarmS) }).toArray 95 (0, 0)) ∧ CF w' { { y20' with temps := (p22, ntemps, ntemps) } with warmS := (pT, nwarmS, nwarmS) } q 5 ∧ FL encYM 21 181 w [b3, b2] w' (pT, nwarmS, nwarmS) nwarmS ([] : List YMk)) ?_ ?_
                  · skip
                    refine W_seq ?_
                    refine W_region rfl ?_
                    refine WO_p (PS_move_ptr rfl) ?_
                    refine WO_p (PS_nilCheck rfl) ?_
                    refine WO_p (PS_fieldAddr 2 Hvac.runUnderlying95 rfl Hvac.sizeOf91 rfl rfl) ?_
                    refine WO_load (.slice _ _ _) Hvac.isAgg91 rfl (Hb.h (by repeat (first | assumption | exact Hb.newY _ _ | refine Hb.alloc ?_ | refine Hb.drew ?_ | refine Hb.ext (by assumption) ?_ | exact Hb.setSameL (by first | omega | (simp only [size_alloc, size_setB, size_drew]; omega)) | exact Hb.setSame (by assumption) | refine Hb.set (by first | omega | (simp only [size_alloc, size_setB, size_drew]; omega)) ?_ ))) (Ce.h (by first | assumption | exact ⟨rfl⟩)) ?_
                    refine WO_p (PS_neqslnil Hvac.underlying91 rfl) ?_
                    refine WO_nil ?_
                    refine thn_normal ?_
                    refine W_if rfl (fun hb35 => ?_) (fun hb35 => ?_)
                    · have hb35p := hb35.h; try simp only [al_ete, al_dfn, Bool.not_eq_true', Bool.not_eq_false', al_ne, Bool.not_not, al_nn] at hb35p
                      refine W_region rfl ?_
                      refine WO_p (PS_move_ptr rfl) ?_
                      refine WO_p (PS_nilCheck rfl) ?_
                      refine WO_p (PS_fieldAddr 2 Hvac.runUnderlying95 rfl Hvac.sizeOf91 rfl rfl) ?_
                      refine WO_load (.slice _ _ _) Hvac.isAgg91 rfl (Hb.h (by repeat (first | assumption | exact Hb.newY _ _ | refine Hb.alloc ?_ | refine Hb.drew ?_ | refine Hb.ext (by assumption) ?_ | exact Hb.setSameL (by first | omega | (simp only [size_alloc, size_setB, size_drew]; omega)) | exact Hb.setSame (by assumption) | refine Hb.set (by first | omega | (simp only [size_alloc, size_setB, size_drew]; omega)) ?_ ))) (Ce.h (by first | assumption | exact ⟨rfl⟩)) ?_
                      refine WO_p (PS_lenS Hvac.runUnderlying91 rfl) ?_
                      refine WO_make (z := .agg (encYM ⟨List.replicate 20 0, (none, 0, 0)⟩).toArray) Hvac.underlying91 info181 rfl rfl rfl (by omega) (by omega) (by show ((48 : Nat) : Int) * _ ≤ _; omega) (by omega) ?_
                      rw [show ((nwarmS : Int)).toNat = nwarmS from Int.toNat_natCast _]
                      refine WO_p (PS_fieldAddr 2 Hvac.runUnderlying95 rfl Hvac.sizeOf91 rfl rfl) ?_
                      refine WO_store1 Hvac.sizeOf91 rfl (v := (.slice _ _ _)) rfl (Hb.h (by repeat (first | assumption | exact Hb.newY _ _ | refine Hb.alloc ?_ | refine Hb.drew ?_ | refine Hb.ext (by assumption) ?_ | exact Hb.setSameL (by first | omega | (simp only [size_alloc, size_setB, size_drew]; omega)) | exact Hb.setSame (by assumption) | refine Hb.set (by first | omega | (simp only [size_alloc, size_setB, size_drew]; omega)) ?_ ))) rfl (by first | omega | assumption | rfl | decide | exact Nat.le_refl _ | (simp only [size_ic, Value.cells]; omega) | (simp [encWs]; done) | (simp; omega) | simp | exact encYA_sz (by assumption) | exact encYT_sz (by assumption) | exact encYM_sz (by assumption)) rfl ?_
                      refine WO_nil ?_
                      refine thn_normal ?_
                      exact ⟨some ⟨_, 0, none⟩, ⟨rfl, rfl, rfl, trivial⟩, (by repeat (first | assumption | exact Ext.refl _ | refine Ext.alloc ?_ _ | refine Ext.drew ?_ | refine Ext.setB ?_ (by first | omega | (simp only [size_alloc, size_setB, size_drew]; omega)) _ | exact Ext.trans (by assumption) (by assumption) | refine Ext.trans ?_ (by assumption))), Hb.mk (Hb.h (by repeat (first | assumption | exact Hb.newY _ _ | refine Hb.alloc ?_ | refine Hb.drew ?_ | refine Hb.ext (by assumption) ?_ | exact Hb.setSameL (by first | omega | (simp only [size_alloc, size_setB, size_drew]; omega)) | exact Hb.setSame (by assumption) | refine Hb.set (by first | omega | (simp only [size_alloc, size_setB, size_drew]; omega)) ?_ ))), Hb.mk (Hb.h (by repeat (first | assumption | exact Hb.newY _ _ | refine Hb.alloc ?_ | refine Hb.drew ?_ | refine Hb.ext (by assumption) ?_ | exact Hb.setSameL (by first | omega | (simp only [size_alloc, size_setB, size_drew]; omega)) | exact Hb.setSame (by assumption) | refine Hb.set (by first | omega | (simp only [size_alloc, size_setB, size_drew]; omega)) ?_ ))), CF.set (CF.g5 (CF.ext (CF.f5 hCFT ⟨K3, hFLT.pl hO (by omega), by have h9 := hKT3; rwa [List.take_of_length_le (by omega)] at h9⟩) (by repeat (first | assumption | exact Ext.refl _ | refine Ext.alloc ?_ _ | refine Ext.drew ?_ | refine Ext.setB ?_ (by first | omega | (simp only [size_alloc, size_setB, size_drew]; omega)) _ | exact Ext.trans (by assumption) (by assumption) | refine Ext.trans ?_ (by assumption))))) (Hb.mk (Hb.h (by repeat (first | assumption | exact Hb.newY _ _ | refine Hb.alloc ?_ | refine Hb.drew ?_ | refine Hb.ext (by assumption) ?_ | exact Hb.setSameL (by first | omega | (simp only [size_alloc, size_setB, size_drew]; omega)) | exact Hb.setSame (by assumption) | refine Hb.set (by first | omega | (simp only [size_alloc, size_setB, size_drew]; omega)) ?_ )))) (used_95 _), FL.set (FL.made (Hb.newY _ _) (size_madeCells _ _) (by first | omega | (simp only [size_alloc, size_setB, size_drew]; omega)) (by simp; omega)) (Or.inl (by simp)) _⟩
                    · have hb35p := hb35.h; try simp only [al_ete, al_dfn, Bool.not_eq_true', Bool.not_eq_false', al_ne, Bool.not_not, al_nn] at hb35p
                      have hpz6 : pt6 = none := by simpa using hb35p
                      have hm06 : nwarmS = 0 := by
                        rcases Nat.eq_zero_or_pos nwarmS with h0 | h0
                        · exact h0
                        · obtain ⟨b, r, fz, h1, _⟩ := hPM.at_ h0
                          rw [hpz6] at h1; cases h1
                      refine W_skip ?_
                      refine thn_normal ?_
                      subst hm06; exact ⟨none, ⟨rfl, rfl, rfl, trivial⟩, (by repeat (first | assumption | exact Ext.refl _ | refine Ext.alloc ?_ _ | refine Ext.drew ?_ | refine Ext.setB ?_ (by first | omega | (simp only [size_alloc, size_setB, size_drew]; omega)) _ | exact Ext.trans (by assumption) (by assumption) | refine Ext.trans ?_ (by assumption))), Hb.mk (Hb.h (by repeat (first | assumption | exact Hb.newY _ _ | refine Hb.alloc ?_ | refine Hb.drew ?_ | refine Hb.ext (by assumption) ?_ | exact Hb.setSameL (by first | omega | (simp only [size_alloc, size_setB, size_drew]; omega)) | exact Hb.setSame (by assumption) | refine Hb.set (by first | omega | (simp only [size_alloc, size_setB, size_drew]; omega)) ?_ ))), by rw [← hys20]; exact Hb.mk (Hb.h (by repeat (first | assumption | exact Hb.newY _ _ | refine Hb.alloc ?_ | refine Hb.drew ?_ | refine Hb.ext (by assumption) ?_ | exact Hb.setSameL (by first | omega | (simp only [size_alloc, size_setB, size_drew]; omega)) | exact Hb.setSame (by assumption) | refine Hb.set (by first | omega | (simp only [size_alloc, size_setB, size_drew]; omega)) ?_ ))), by rw [← hys20]; exact CF.f5 hCFT ⟨K3, hFLT.pl hO (by omega), by have h9 := hKT3; rwa [List.take_of_length_le (by omega)] at h9⟩, FL.nil _ _ _ _ _ _⟩
                  · rintro ρ29 w29 ⟨p29, hFr29, hE29, hb229, hb329, hCF29, hFL29⟩
                    refine W_env _ hFr29 ?_
                    have hz29 := hE29.1
                    have hb2l29 := hb229.lt
                    have hb3l29 := hb329.lt
                    have hS29 := hS.ext hE29
                    refine W_seq ?_
                    refine W_seq ?_
                    refine W_region rfl ?_
                    refine WO_p (PS_move_ptr rfl) ?_
                    refine WO_p (PS_nilCheck rfl) ?_
                    refine WO_p (PS_fieldAddr 2 Hvac.runUnderlying95 rfl Hvac.sizeOf91 rfl rfl) ?_
                    refine WO_load (.slice _ _ _) Hvac.isAgg91 rfl (Hb.h (by repeat (first | assumption | exact Hb.newY _ _ | refine Hb.alloc ?_ | refine Hb.drew ?_ | refine Hb.ext (by assumption) ?_ | exact Hb.setSameL (by first | omega | (simp only [size_alloc, size_setB, size_drew]; omega)) | exact Hb.setSame (by assumption) | refine Hb.set (by first | omega | (simp only [size_alloc, size_setB, size_drew]; omega)) ?_ ))) (Ce.h (by first | assumption | exact ⟨rfl⟩)) ?_
                    refine WO_p (PS_lenS Hvac.runUnderlying91 rfl) ?_
                    refine WO_p (PS_move_int rfl) ?_
                    refine WO_nil ?_
                    refine thn_normal ?_
                    refine W_block ?_
                    refine W_loopN (fun k9 ρ w' => ∃ (i3 : Nat) (K4 : List YMk), i3 + k9 = nwarmS ∧ K4.length = i3 ∧ FL encYM 21 181 w [b3, b2] w' (p29, nwarmS, nwarmS) nwarmS K4 ∧ R2 (MkR w') K4 (q.warmS.take i3) ∧ CF w' { y20' with temps := (p22, ntemps, ntemps), warmS := (p29, nwarmS, nwarmS) } q 5 ∧ Fr [(0, .pointer (some ⟨S, 0, none⟩)), (2, .pointer (some ⟨b2, 0, none⟩)), (3, .pointer (some ⟨b3, 0, none⟩)), (161, .slice pt6 nwarmS ct6), (162, .int .i64 nwarmS), (163, .int .i64 i3)] ρ ∧ Ext w w' ∧ Hb w' b3 (.cells (encWs { y20' with temps := (p22, ntemps, ntemps), warmS := (p29, nwarmS, nwarmS) }).toArray 95 (0, 0)) ∧ Hb w' b2 (.cells (encWs ⟨(none, 0, 0), (none, 0, 0), (none, 0, 0), (none, 0, 0), (none, 0, 0), (none, 0, 0), (none, 0, 0), (none, 0, 0)⟩).toArray 95 (0, 0))) nwarmS ?_ ?_
                    · exact ⟨0, [], by omega, rfl, hFL29, R2.nil _, hCF29, ⟨rfl, rfl, rfl, rfl, rfl, rfl, trivial⟩, (by repeat (first | assumption | exact Ext.refl _ | refine Ext.alloc ?_ _ | refine Ext.drew ?_ | refine Ext.setB ?_ (by first | omega | (simp only [size_alloc, size_setB, size_drew]; omega)) _ | refine Ext.trans ?_ (by assumption))), hb329, hb229⟩
                    intro k60 ρ60 w60 hI60
                    obtain ⟨i3, K4, hik3, hK4, hFLM, hKM, hCFM, hFr60, hE60, hb360, hb260⟩ := hI60
                    refine W_env _ hFr60 ?_
                    have hz60 := hE60.1
                    have hb360_l := hb360.lt
                    have hb260_l := hb260.lt
                    refine W_seq ?_
                    refine W_region rfl ?_
                    refine WO_p (PS_lss rfl rfl) ?_
                    refine WO_nil ?_
                    refine thn_normal ?_
                    refine W_seq ?_
                    refine W_if rfl (fun hb37 => ?_) (fun hb37 => ?_)
                    · have hb37p := hb37.h; try simp only [al_ete, al_dfn, Bool.not_eq_true', Bool.not_eq_false', al_ne, Bool.not_not, al_nn] at hb37p
                      obtain ⟨x6, y6, hx6, hy6, hxy6⟩ := hRM.get (i := i3) (by omega)
                      have hxl6 : x6.addr.length = 20 := by rw [hxy6.addr]; exact hxy6.ab.1
                      have hxE6 := encYM_len hxl6
                      obtain ⟨bs6, rs6, fzs6, hp6, hbs6, hrs6, hXi6⟩ := pl_at (hPM.ext hE60) hx6 hxE6
                      subst hp6
                      have hX6 := encYM_addr hxl6
                      have hq61 := encYM_1 hxl6
                      have hsz6 := encYM_sz hxl6
                      have hv61 := hxy6.key.ext hE60
                      have hv61z := hxy6.kz
                      obtain ⟨bM, rM, hpM9, hbM0, hbMX, hbM9, hrM5, hRMM⟩ := hFLM.row (by omega)
                      dsimp only at hpM9
                      subst hpM9
                      have hbMl := hbM9.lt
                      have hMb : 0 + i3 * 21 + 21 ≤ rM.size := by rw [hrM5]; have := Nat.mul_le_mul_right 21 (show i3 + 1 ≤ nwarmS by omega); omega
                      have hbMne3 : bM ≠ b3 := by intro e; apply hbMX; simp [e]
                      have hbMne2 : bM ≠ b2 := by intro e; apply hbMX; simp [e]
                      refine W_skip ?_
                      refine thn_normal ?_
                      refine W_seq ?_
                      refine W_block ?_
                      refine W_seq ?_
                      refine W_region rfl ?_
                      refine WO_p (PS_move_int rfl) ?_
                      refine WO_p (PS_indexS Hvac.runUnderlying91 Hvac.sizeOf181 rfl rfl (by omega) (by omega)) ?_
                      refine WO_loadA _ Hvac.isAgg181 Hvac.sizeOf181 rfl (Hb.h (by repeat (first | assumption | exact Hb.newY _ _ | refine Hb.alloc ?_ | refine Hb.drew ?_ | refine Hb.ext (by assumption) ?_ | exact Hb.setSameL (by first | omega | (simp only [size_alloc, size_setB, size_drew]; omega)) | exact Hb.setSame (by assumption) | refine Hb.set (by first | omega | (simp only [size_alloc, size_setB, size_drew]; omega)) ?_ ))) (by first | omega | assumption | rfl | decide | exact Nat.le_refl _ | (simp only [size_ic, Value.cells]; omega) | (simp [encWs]; done) | (simp; omega) | simp | exact encYA_sz (by assumption) | exact encYT_sz (by assumption) | exact encYM_sz (by assumption)) (Xt.h (by first | assumption | exact Xt.whole rfl rfl | exact Xt.whole rfl (by assumption) | exact Xt.whole rfl (by simp only [size_ic, Value.cells]; omega) | exact ⟨rfl⟩)) ?_
                      refine WO_allocG Hvac.zeroValue181 ?_
                      intro b12 v12 hg12 hE12 hH12 hl12
                      try simp only [size_alloc, size_setB, size_drew] at hg12
                      have hzz12 := hE12.1
                      try simp only [size_alloc, size_setB, size_drew] at hzz12
                      replace hH12 : Hb v12 b12 (.cells ((encYM ⟨List.replicate 20 0, (none, 0, 0)⟩).toArray) 181 (0, 0)) := hH12
                      refine WO_p (PS_assign_int rfl) ?_
                      first | refine WO_storeW Hvac.sizeOf181 rfl (v := .agg _) rfl (Hb.h (by repeat (first | assumption | exact Hb.newY _ _ | refine Hb.alloc ?_ | refine Hb.drew ?_ | refine Hb.ext (by assumption) ?_ | exact Hb.setSameL (by first | omega | (simp only [size_alloc, size_setB, size_drew]; omega)) | exact Hb.setSame (by assumption) | refine Hb.set (by first | omega | (simp only [size_alloc, size_setB, size_drew]; omega)) ?_ ))) rfl (by first | omega | assumption | rfl | decide | exact Nat.le_refl _ | (simp only [size_ic, Value.cells]; omega) | (simp [encWs]; done) | (simp; omega) | simp | exact encYA_sz (by assumption) | exact encYT_sz (by assumption) | exact encYM_sz (by assumption)) (by first | omega | assumption | rfl | decide | exact Nat.le_refl _ | (simp only [size_ic, Value.cells]; omega) | (simp [encWs]; done) | (simp; omega) | simp | exact encYA_sz (by assumption) | exact encYT_sz (by assumption) | exact encYM_sz (by assumption)) (by first | exact oneCell_ic | assumption | exact one_Ws2 _ | exact one_YA2 _ | exact one_YSl2 _ | exact one_YM2 _ | exact one_YT2 _ | exact one_L2 _) ?_ | refine WO_store Hvac.sizeOf181 rfl (v := .agg _) rfl (Hb.h (by repeat (first | assumption | exact Hb.newY _ _ | refine Hb.alloc ?_ | refine Hb.drew ?_ | refine Hb.ext (by assumption) ?_ | exact Hb.setSameL (by first | omega | (simp only [size_alloc, size_setB, size_drew]; omega)) | exact Hb.setSame (by assumption) | refine Hb.set (by first | omega | (simp only [size_alloc, size_setB, size_drew]; omega)) ?_ ))) (by first | omega | assumption | rfl | decide | exact Nat.le_refl _ | (simp only [size_ic, Value.cells]; omega) | (simp [encWs]; done) | (simp; omega) | simp | exact encYA_sz (by assumption) | exact encYT_sz (by assumption) | exact encYM_sz (by assumption)) (by first | omega | assumption | rfl | decide | exact Nat.le_refl _ | (simp only [size_ic, Value.cells]; omega) | (simp [encWs]; done) | (simp; omega) | simp | exact encYA_sz (by assumption) | exact encYT_sz (by assumption) | exact encYM_sz (by assumption)) (by first | exact oneCell_ic | assumption | exact one_Ws2 _ | exact one_YA2 _ | exact one_YSl2 _ | exact one_YM2 _ | exact one_YT2 _ | exact one_L2 _) ?_
                      refine WO_nil ?_
                      refine thn_normal ?_
                      refine W_drawE [false, false, false, false, false, false, false, true, false, false, false] hmix (by kernel_rfl) rfl ?_
                      refine WH_p (PS_fieldAddr 2 Hvac.runUnderlying95 rfl Hvac.sizeOf91 rfl rfl) rfl ?_
                      refine WH_load (.slice _ _ _) Hvac.isAgg91 rfl (Hb.h (by repeat (first | assumption | exact Hb.newY _ _ | refine Hb.alloc ?_ | refine Hb.drew ?_ | refine Hb.ext (by assumption) ?_ | exact Hb.setSameL (by first | omega | (simp only [size_alloc, size_setB, size_drew]; omega)) | exact Hb.setSame (by assumption) | refine Hb.set (by first | omega | (simp only [size_alloc, size_setB, size_drew]; omega)) ?_ ))) (Ce.h (by first | assumption | exact ⟨rfl⟩)) ?_
                      refine WH_p (PS_move_int rfl) rfl ?_
                      refine WH_p (PS_fieldAddr 0 Hvac.runUnderlying181 rfl Hvac.sizeOf25 rfl rfl) rfl ?_
                      refine WH_loadA _ Hvac.isAgg25 Hvac.sizeOf25 rfl (Hb.h (by repeat (first | assumption | exact Hb.newY _ _ | refine Hb.alloc ?_ | refine Hb.drew ?_ | refine Hb.ext (by assumption) ?_ | exact Hb.setSameL (by first | omega | (simp only [size_alloc, size_setB, size_drew]; omega)) | exact Hb.setSame (by assumption) | refine Hb.set (by first | omega | (simp only [size_alloc, size_setB, size_drew]; omega)) ?_ ))) (by first | omega | assumption | rfl | decide | exact Nat.le_refl _ | (simp only [size_ic, Value.cells]; omega) | (simp [encWs]; done) | (simp; omega) | simp | exact encYA_sz (by assumption) | exact encYT_sz (by assumption) | exact encYM_sz (by assumption)) (Xt.h (by first | assumption | exact Xt.whole rfl rfl | exact Xt.whole rfl (by assumption) | exact Xt.whole rfl (by simp only [size_ic, Value.cells]; omega) | exact ⟨rfl⟩)) ?_
                      refine WH_p (PS_fieldAddr 20 Hvac.runUnderlying181 rfl Hvac.sizeOf92 rfl rfl) rfl ?_
                      refine WH_load (.slice _ _ _) Hvac.isAgg92 rfl (Hb.h (by repeat (first | assumption | exact Hb.newY _ _ | refine Hb.alloc ?_ | refine Hb.drew ?_ | refine Hb.ext (by assumption) ?_ | exact Hb.setSameL (by first | omega | (simp only [size_alloc, size_setB, size_drew]; omega)) | exact Hb.setSame (by assumption) | refine Hb.set (by first | omega | (simp only [size_alloc, size_setB, size_drew]; omega)) ?_ ))) (Ce.h (by first | assumption | exact ⟨rfl⟩)) ?_
                      refine WH_call Hvac.call164 (by rfl) (Ret.mono (yNatOf_spec _ (OmB.ext hO (by repeat (first | assumption | exact Ext.refl _ | refine Ext.alloc ?_ _ | refine Ext.drew ?_ | refine Ext.setB ?_ (by first | omega | (simp only [size_alloc, size_setB, size_drew]; omega)) _ | exact Ext.trans (by assumption) (by assumption) | refine Ext.trans ?_ (by assumption)))) _ _ _ _ (by first | exact NN.nil _ | assumption | exact NN.ext (by assumption) (by repeat (first | assumption | exact Ext.refl _ | refine Ext.alloc ?_ _ | refine Ext.drew ?_ | refine Ext.setB ?_ (by first | omega | (simp only [size_alloc, size_setB, size_drew]; omega)) _ | exact Ext.trans (by assumption) (by assumption) | refine Ext.trans ?_ (by assumption)))) (by first | assumption | omega | (rw [sz_zero]; omega))) ?_)
                      rintro _ w164_37 ⟨hE164_37, s164_37, rfl, hN164_37⟩
                      refine ⟨fun _ => (by repeat (first | assumption | exact Ext.refl _ | refine Ext.alloc ?_ _ | refine Ext.drew ?_ | refine Ext.setB ?_ (by first | omega | (simp only [size_alloc, size_setB, size_drew]; omega)) _ | exact Ext.trans (by assumption) (by assumption) | refine Ext.trans ?_ (by assumption))), ?_⟩
                      have hz164_37 := hE164_37.1
                      try simp only [size_alloc, size_setB, size_drew] at hz164_37
                      refine WH_p (PS_b181 (A := x6.addr) rfl hxl6 rfl) rfl ?_
                      refine WH_p (PS_indexS Hvac.runUnderlying91 Hvac.sizeOf181 rfl rfl (by omega) (by omega)) rfl ?_
                      first | refine WH_storeW Hvac.sizeOf181 rfl (v := .agg _) rfl (Hb.h (by repeat (first | assumption | exact Hb.newY _ _ | refine Hb.alloc ?_ | refine Hb.drew ?_ | refine Hb.ext (by assumption) ?_ | exact Hb.setSameL (by first | omega | (simp only [size_alloc, size_setB, size_drew]; omega)) | exact Hb.setSame (by assumption) | refine Hb.set (by first | omega | (simp only [size_alloc, size_setB, size_drew]; omega)) ?_ ))) rfl (by first | omega | assumption | rfl | decide | exact Nat.le_refl _ | (simp only [size_ic, Value.cells]; omega) | (simp [encWs]; done) | (simp; omega) | simp | exact encYA_sz (by assumption) | exact encYT_sz (by assumption) | exact encYM_sz (by assumption)) (by first | omega | assumption | rfl | decide | exact Nat.le_refl _ | (simp only [size_ic, Value.cells]; omega) | (simp [encWs]; done) | (simp; omega) | simp | exact encYA_sz (by assumption) | exact encYT_sz (by assumption) | exact encYM_sz (by assumption)) (by first | exact oneCell_ic | assumption | exact one_Ws2 _ | exact one_YA2 _ | exact one_YSl2 _ | exact one_YM2 _ | exact one_YT2 _ | exact one_L2 _) (fun h => by cases h) ?_ | refine WH_store Hvac.sizeOf181 rfl (v := .agg _) rfl (Hb.h (by repeat (first | assumption | exact Hb.newY _ _ | refine Hb.alloc ?_ | refine Hb.drew ?_ | refine Hb.ext (by assumption) ?_ | exact Hb.setSameL (by first | omega | (simp only [size_alloc, size_setB, size_drew]; omega)) | exact Hb.setSame (by assumption) | refine Hb.set (by first | omega | (simp only [size_alloc, size_setB, size_drew]; omega)) ?_ ))) (by first | omega | assumption | rfl | decide | exact Nat.le_refl _ | (simp only [size_ic, Value.cells]; omega) | (simp [encWs]; done) | (simp; omega) | simp | exact encYA_sz (by assumption) | exact encYT_sz (by assumption) | exact encYM_sz (by assumption)) (by first | omega | assumption | rfl | decide | exact Nat.le_refl _ | (simp only [size_ic, Value.cells]; omega) | (simp [encWs]; done) | (simp; omega) | simp | exact encYA_sz (by assumption) | exact encYT_sz (by assumption) | exact encYM_sz (by assumption)) (by first | exact oneCell_ic | assumption | exact one_Ws2 _ | exact one_YA2 _ | exact one_YSl2 _ | exact one_YM2 _ | exact one_YT2 _ | exact one_L2 _) (fun h => by cases h) ?_
                      refine WH_nil ?_
                      refine inBlk_normal ?_
                      refine thn_normal ?_
                      refine W_region rfl ?_
                      refine WO_p (PS_add_i64n rfl rfl (by omega) (by omega)) ?_
                      refine WO_p (PS_move_int rfl) ?_
                      refine WO_nil ?_
                      refine thn_normal ?_
                      have hEM : Ext w60 w164_37 := (by repeat (first | assumption | exact Ext.refl _ | refine Ext.alloc ?_ _ | refine Ext.drew ?_ | refine Ext.setB ?_ (by first | omega | (simp only [size_alloc, size_setB, size_drew]; omega)) _ | refine Ext.trans ?_ (by assumption)))
                      have hbMM := hbM9.ext hEM
                      have hlenM := encYM_len (x := ⟨x6.addr, s164_37⟩) hxl6
                      refine ⟨k60 - 1, by omega, i3 + 1, K4 ++ [⟨x6.addr, s164_37⟩], by omega, by simp; omega, (hFLM.ext hEM).put hK4 (by omega) hbMM hlenM (by simp [Value.cells]), ?_, CF.set (hCFM.ext hEM) hbMM used_181, ⟨rfl, rfl, rfl, rfl, rfl, congrArg (Value.int .i64) (by omega), trivial⟩, Ext.setB (hE60.trans hEM) (by omega) _, Hb.set (by omega) (hb360.ext hEM), Hb.set (by omega) (hb260.ext hEM)⟩
                      rw [take_snoc hy6]
                      exact R2.snoc (hKM.mono fun _ _ h => (h.ext hEM).kt (KT.setB hbMM (by decide))) { addr := hxy6.addr, ab := hxy6.ab, key := hN164_37.kt (KT.setB hbMM (by decide)), kz := hv61z }
                    · have hb37p := hb37.h; try simp only [al_ete, al_dfn, Bool.not_eq_true', Bool.not_eq_false', al_ne, Bool.not_not, al_nn] at hb37p
                      refine W_exit ?_
                      refine thn_exit ?_
                      refine thn_exit ?_
                      refine inBlk_exit ?_
                      refine thn_normal ?_
                      refine W_seq ?_
                      refine W_region rfl ?_
                      refine WO_loadA _ Hvac.isAgg95 Hvac.sizeOf95 rfl (Hb.h (by repeat (first | assumption | exact Hb.newY _ _ | refine Hb.alloc ?_ | refine Hb.drew ?_ | refine Hb.ext (by assumption) ?_ | exact Hb.setSameL (by first | omega | (simp only [size_alloc, size_setB, size_drew]; omega)) | exact Hb.setSame (by assumption) | refine Hb.set (by first | omega | (simp only [size_alloc, size_setB, size_drew]; omega)) ?_ ))) (by first | omega | assumption | rfl | decide | exact Nat.le_refl _ | (simp only [size_ic, Value.cells]; omega) | (simp [encWs]; done) | (simp; omega) | simp | exact encYA_sz (by assumption) | exact encYT_sz (by assumption) | exact encYM_sz (by assumption)) (Xt.h (by first | assumption | exact Xt.whole rfl rfl | exact Xt.whole rfl (by assumption) | exact Xt.whole rfl (by simp only [size_ic, Value.cells]; omega) | exact ⟨rfl⟩)) ?_
                      first | refine WO_storeW Hvac.sizeOf95 rfl (v := .agg _) rfl (Hb.h (by repeat (first | assumption | exact Hb.newY _ _ | refine Hb.alloc ?_ | refine Hb.drew ?_ | refine Hb.ext (by assumption) ?_ | exact Hb.setSameL (by first | omega | (simp only [size_alloc, size_setB, size_drew]; omega)) | exact Hb.setSame (by assumption) | refine Hb.set (by first | omega | (simp only [size_alloc, size_setB, size_drew]; omega)) ?_ ))) rfl (by first | omega | assumption | rfl | decide | exact Nat.le_refl _ | (simp only [size_ic, Value.cells]; omega) | (simp [encWs]; done) | (simp; omega) | simp | exact encYA_sz (by assumption) | exact encYT_sz (by assumption) | exact encYM_sz (by assumption)) (by first | omega | assumption | rfl | decide | exact Nat.le_refl _ | (simp only [size_ic, Value.cells]; omega) | (simp [encWs]; done) | (simp; omega) | simp | exact encYA_sz (by assumption) | exact encYT_sz (by assumption) | exact encYM_sz (by assumption)) (by first | exact oneCell_ic | assumption | exact one_Ws2 _ | exact one_YA2 _ | exact one_YSl2 _ | exact one_YM2 _ | exact one_YT2 _ | exact one_L2 _) ?_ | refine WO_store Hvac.sizeOf95 rfl (v := .agg _) rfl (Hb.h (by repeat (first | assumption | exact Hb.newY _ _ | refine Hb.alloc ?_ | refine Hb.drew ?_ | refine Hb.ext (by assumption) ?_ | exact Hb.setSameL (by first | omega | (simp only [size_alloc, size_setB, size_drew]; omega)) | exact Hb.setSame (by assumption) | refine Hb.set (by first | omega | (simp only [size_alloc, size_setB, size_drew]; omega)) ?_ ))) (by first | omega | assumption | rfl | decide | exact Nat.le_refl _ | (simp only [size_ic, Value.cells]; omega) | (simp [encWs]; done) | (simp; omega) | simp | exact encYA_sz (by assumption) | exact encYT_sz (by assumption) | exact encYM_sz (by assumption)) (by first | omega | assumption | rfl | decide | exact Nat.le_refl _ | (simp only [size_ic, Value.cells]; omega) | (simp [encWs]; done) | (simp; omega) | simp | exact encYA_sz (by assumption) | exact encYT_sz (by assumption) | exact encYM_sz (by assumption)) (by first | exact oneCell_ic | assumption | exact one_Ws2 _ | exact one_YA2 _ | exact one_YSl2 _ | exact one_YM2 _ | exact one_YT2 _ | exact one_L2 _) ?_
                      refine WO_nil ?_
                      refine thn_normal ?_
                      refine W_ret ?_
                      refine bodyQ_cell1 Hvac.results92 rfl Hvac.isAgg95 Hvac.sizeOf95 rfl (Hb.h (by repeat (first | assumption | exact Hb.newY _ _ | refine Hb.alloc ?_ | refine Hb.drew ?_ | refine Hb.ext (by assumption) ?_ | exact Hb.setSameL (by first | omega | (simp only [size_alloc, size_setB, size_drew]; omega)) | exact Hb.setSame (by assumption) | refine Hb.set (by first | omega | (simp only [size_alloc, size_setB, size_drew]; omega)) ?_ ))) (by first | omega | assumption | rfl | decide | exact Nat.le_refl _ | (simp only [size_ic, Value.cells]; omega) | (simp [encWs]; done) | (simp; omega) | simp | exact encYA_sz (by assumption) | exact encYT_sz (by assumption) | exact encYM_sz (by assumption)) ?_
                      refine ⟨(by repeat (first | assumption | exact Ext.refl _ | refine Ext.alloc ?_ _ | refine Ext.drew ?_ | refine Ext.setB ?_ (by first | omega | (simp only [size_alloc, size_setB, size_drew]; omega)) _ | refine Ext.trans ?_ (by assumption))), _, rfl, ?_⟩
                      exact CF.all (CF.set (CF.f6 hCFM ⟨K4, hFLM.pl hO (by omega), by have h9 := hKM; rwa [List.take_of_length_le (by omega)] at h9⟩) hb260 (used_95 _))

end Go.Proofs.YgvacwGreat
