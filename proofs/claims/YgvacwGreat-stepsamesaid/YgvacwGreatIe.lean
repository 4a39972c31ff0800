import Derived.Test.YgvacwGreatId
namespace Go.Proofs.YgvacwGreat
set_option linter.unusedSimpArgs false
set_option linter.unusedVariables false
/-- the list holds no more than it may -/
def lokB (t : Tx) : Bool := decide (t.al.length ≤ 16) && (List.range (t.al.length + 1)).all (fun i => decide (ksum t.al i ≤ 64))
theorem lokB_iff (t : Tx) : lokB t = true ↔ LOK t := by
  unfold lokB
  simp only [Bool.and_eq_true, al_ete, List.all_eq_true, List.mem_range]
  exact ⟨fun h => ⟨h.1, fun i hi => h.2 i (by omega)⟩, fun h => ⟨h.a, fun i hi => h.k i (by omega)⟩⟩
theorem eq_lokB {q : Bool} {t : Tx} (h : q = true ↔ LOK t) : q = lokB t := by
  rw [al_bi, h, lokB_iff]
/-- what is wrong with a transaction -/
def yverd (y : PSt) (t : Tx) : Nat :=
  if y.phase ≠ 0 then 1 else if 4 ≤ y.applied then 2
  else if 1048576 < t.gas.toNat ∨ 1024 < t.db.length ∨ lokB t = false then 3
  else if t.nonce.toNat ≠ (yacct y.now.accts t.fr).nonce then 4
  else if (yacct y.now.accts t.fr).nonce = 18446744073709551615 then 5
  else if 0 < (yacct y.now.accts t.fr).code.length then 6
  else if t.create = true ∧ 512 < t.db.length then 7
  else if t.gas.toNat < yintr t then 8
  else if y.env.glim.toNat < t.gas.toNat then 9
  else if (yacct y.now.accts t.fr).bal < t.gas.toNat * bvY (feeB t).1 + bvY t.value then 10
  else if bvY (feeB t).1 < bvY (feeB t).2 then 11
  else if bvY (feeB t).1 < bvY y.env.bfee then 12 else 0

set_option maxRecDepth 10000 in
set_option maxHeartbeats 4000000 in
theorem yVerdict_spec [Om] (w : World) (hO : OmB w) (C : Nat) (x : YSt) (y : PSt) (N : Nat) (hS : YSS w C x y) (hB : PSB N y) (hN : N ≤ 100000000) (t : Tx) (htx : TxOK w t) (hap : y.applied ≤ 255) : Ret Hvac.prog 16 #[.pointer (some ⟨C, 0, none⟩), .agg (encTx t).toArray] w fun u w' => Ext w w' ∧ u = .int .u8 (yverd y t) := by
  have hone := one_encTx t
  have hszt : (encTx t).toArray.size = 174 := by have := encTx_len htx; simpa using this
  obtain ⟨hf1, hf2⟩ := feeB_by htx
  have hl1 := hf1.1
  have hl2 := hf2.1
  have hzf1 : sz (bvY (feeB t).1) ≤ 32 := by have := sz_le (bv_lt hf1.2); rwa [hl1] at this
  have hzf2 : sz (bvY (feeB t).2) ≤ 32 := by have := sz_le (bv_lt hf2.2); rwa [hl2] at this
  have hat := txAt htx
  have hSb := hS.blk
  have hSl := hSb.lt
  have hol : x.origin.length = 20 := by rw [hS.rel.origin]; exact hS.rel.ob.1
  have hml : x.made.length = 20 := by rw [hS.rel.made]; exact hS.rel.mb.1
  have hEB : EvB x.env := by rw [hS.rel.env]; exact hS.rel.evb
  have hEC := encYS_env hol hml hEB
  have hszS := encYS_sz hol hml hEB
  have hEe := hS.rel.env
  have hk1 := hEC.num
  have hk2 := hEC.timeY
  have hk3 := hEC.glim
  have hk7 := hEC.hash
  have hnb := hEB.num
  have htb := hEB.timeY
  have hgb := hEB.glim
  have hABc : AB w (some ⟨C, 0 + 59 + 0, none⟩, 20, 20) x.env.cb := AB.xt hSb hEC.cb (by omega) hEB.cb.1 hEB.cb.2
  have hABr : AB w (some ⟨C, 0 + 59 + 23, none⟩, 32, 32) x.env.rand := AB.xt hSb hEC.rand (by omega) hEB.rand.1 hEB.rand.2
  have hABi : AB w (some ⟨C, 0 + 59 + 55, none⟩, 32, 32) x.env.cid := AB.xt hSb hEC.cid (by omega) hEB.cid.1 hEB.cid.2
  have hABb : AB w (some ⟨C, 0 + 59 + 87, none⟩, 32, 32) x.env.bfee := AB.xt hSb hEC.bfee (by omega) hEB.bfee.1 hEB.bfee.2
  have hph := hS.rel.phase
  have happ := hS.rel.applied
  have hphb := hB.ph
  have hk11 : Ce (encYS x).toArray (0 + 11) (.int .u8 x.phase) := ⟨rfl⟩
  have hk13 : Ce (encYS x).toArray (0 + 13) (.int .u8 x.applied) := ⟨rfl⟩
  have hAl := htx.fr.1
  have hab := hat.fr
  have hdal := htx.da.len
  have hag := hat.ga
  have hno := hat.no
  have hda := hat.da
  have hcr := hat.cr
  have hgab := htx.ga
  have hnob := htx.no
  have hzv : sz (bvY t.value) ≤ 32 := by have := sz_le (bv_lt htx.va.2); rwa [htx.va.1] at this
  have hzbf : sz (bvY y.env.bfee) ≤ 32 := by have := sz_le (bv_lt hS.rel.evb.bfee.2); rwa [hS.rel.evb.bfee.1] at this
  refine Ret_of_W Hvac.func16 rfl rfl ?_
  refine W_seq ?_
  refine W_region rfl ?_
  refine WO_boxG (.agg _) rfl ?_
  intro b3 v3 hg3 hE3 hH3 hl3
  try simp only [size_alloc, size_setB, size_drew] at hg3
  have hzz3 := hE3.1
  try simp only [size_alloc, size_setB, size_drew] at hzz3
  refine WO_p (PS_assign_int rfl) ?_
  refine WO_nil ?_
  refine thn_normal ?_
  refine W_seqJ (fun ρ w' => ∃ (x3 : YAc) (b5 : Nat), Fr [(0, .pointer (some ⟨C, 0, none⟩)), (3, .pointer (some ⟨b3, 0, none⟩)), (5, .pointer (some ⟨b5, 0, none⟩))] ρ ∧ Ext w w' ∧ Hb w' b3 (.cells (encTx t).toArray 35 (0, 0)) ∧ Hb w' b5 (.cells (encYA x3).toArray 104 (0, 0)) ∧ x3.addr = t.fr ∧ AcR w' x3 (yacct y.now.accts t.fr)) ?_ ?_
  · skip
    refine W_drawF [false, false, false, false, false, false, true, false] [6] [0, 1, 2, 3, 4, 5, 7] hmix (by kernel_rfl) rfl rfl rfl ?_
    refine F_q (i := 0) rfl (by kernel_rfl) ?_
    refine WH_p (PS_move_ptr rfl) rfl ?_
    refine WH_nil ?_
    refine F_q (i := 1) rfl (by kernel_rfl) ?_
    refine WH_p (PS_nilCheck rfl) rfl ?_
    refine WH_nil ?_
    refine F_q (i := 2) rfl (by kernel_rfl) ?_
    refine WH_p (PS_fieldAddr 0 Hvac.runUnderlying99 rfl Hvac.sizeOf95 rfl rfl) rfl ?_
    refine WH_nil ?_
    refine F_q (i := 3) rfl (by kernel_rfl) ?_
    refine WH_p (PS_fieldAddr 0 Hvac.runUnderlying35 rfl Hvac.sizeOf25 rfl rfl) rfl ?_
    refine WH_nil ?_
    refine F_q (i := 4) rfl (by kernel_rfl) ?_
    refine WH_loadA _ Hvac.isAgg25 Hvac.sizeOf25 rfl (Hb.h (by repeat (first | assumption | exact Hb.newY _ _ | refine Hb.alloc ?_ | refine Hb.drew ?_ | refine Hb.ext (by assumption) ?_ | exact Hb.setSameL (by first | omega | (simp only [size_alloc, size_setB, size_drew]; omega)) | exact Hb.setSame (by assumption) | refine Hb.set (by first | omega | (simp only [size_alloc, size_setB, size_drew]; omega)) ?_ ))) (by first | omega | assumption | rfl | decide | exact Nat.le_refl _ | (simp only [size_ic, Value.cells]; omega) | (simp [encWs]; done) | (simp; omega) | simp | exact encYA_sz (by assumption) | exact encYT_sz (by assumption) | exact encYM_sz (by assumption)) (Xt.h (by first | assumption | exact Xt.whole rfl rfl | exact Xt.whole rfl (by assumption) | exact Xt.whole rfl (by simp only [size_ic, Value.cells]; omega) | exact ⟨rfl⟩)) ?_
    refine WH_nil ?_
    refine F_fork1 (i := 5) rfl rfl ?_ ?_
    · refine WH_call Hvac.call17 (by rfl) (Ret.mono (acctS (OmB.ext hO (by repeat (first | assumption | exact Ext.refl _ | refine Ext.alloc ?_ _ | refine Ext.drew ?_ | refine Ext.setB ?_ (by first | omega | (simp only [size_alloc, size_setB, size_drew]; omega)) _ | exact Ext.trans (by assumption) (by assumption) | refine Ext.trans ?_ (by assumption)))) (by first | assumption | exact YSS.ext (by assumption) (by repeat (first | assumption | exact Ext.refl _ | refine Ext.alloc ?_ _ | refine Ext.drew ?_ | refine Ext.setB ?_ (by first | omega | (simp only [size_alloc, size_setB, size_drew]; omega)) _ | exact Ext.trans (by assumption) (by assumption) | refine Ext.trans ?_ (by assumption)))) hB hN htx.fr) ?_)
      rintro _ w3 ⟨hE3, x3, rfl, hxa3, hxr3⟩
      refine ⟨(fun h => by cases h), ?_⟩
      have hz3 := hE3.1
      try simp only [size_alloc, size_setB, size_drew] at hz3
      have hxl3 : x3.addr.length = 20 := by rw [hxa3]; exact htx.fr.1
      have hsz3 : (encYA x3).toArray.size = 24 := by simpa using encYA_len hxl3
      have hone3 := one_YA2 x3
      have hc13 := encYA_1 hxl3
      have hc23 := encYA_2 hxl3
      have hc33 := encYA_3 hxl3
      have hnb3 := hxr3.bal
      have hnn3 := hxr3.nonce
      have hzb3 := hxr3.bz
      have hzn3 := hxr3.nz
      have hcl3 := hxr3.code.len
      have hcp3 := hxr3.code
      have hcdl3 := hB.now.cd.acct t.fr
      refine WH_nil ?_
      refine F_fork1B (i := 7) (by kernel_rfl) rfl ?_
      · refine WH_allocG Hvac.zeroValue104 ?_
        intro b5 v5 hg5 hE5 hH5 hl5
        try simp only [size_alloc, size_setB, size_drew] at hg5
        have hzz5 := hE5.1
        try simp only [size_alloc, size_setB, size_drew] at hzz5
        replace hH5 : Hb v5 b5 (.cells ((encYA (ac0 (List.replicate 20 0))).toArray) 104 (0, 0)) := hH5
        refine ⟨fun _ => (by repeat (first | assumption | exact Ext.refl _ | refine Ext.alloc ?_ _ | refine Ext.drew ?_ | refine Ext.setB ?_ (by first | omega | (simp only [size_alloc, size_setB, size_drew]; omega)) _ | exact Ext.trans (by assumption) (by assumption) | refine Ext.trans ?_ (by assumption))), ?_⟩
        refine WH_nil ?_
        refine F_q (i := 7) rfl (by kernel_rfl) ?_
        first | refine WH_storeW Hvac.sizeOf104 rfl (v := .agg _) rfl (Hb.h (by repeat (first | assumption | exact Hb.newY _ _ | refine Hb.alloc ?_ | refine Hb.drew ?_ | refine Hb.ext (by assumption) ?_ | exact Hb.setSameL (by first | omega | (simp only [size_alloc, size_setB, size_drew]; omega)) | exact Hb.setSame (by assumption) | refine Hb.set (by first | omega | (simp only [size_alloc, size_setB, size_drew]; omega)) ?_ ))) rfl (by first | omega | assumption | rfl | decide | exact Nat.le_refl _ | (simp only [size_ic, Value.cells]; omega) | (simp [encWs]; done) | (simp; omega) | simp | exact encYA_sz (by assumption) | exact encYT_sz (by assumption) | exact encYM_sz (by assumption)) (by first | omega | assumption | rfl | decide | exact Nat.le_refl _ | (simp only [size_ic, Value.cells]; omega) | (simp [encWs]; done) | (simp; omega) | simp | exact encYA_sz (by assumption) | exact encYT_sz (by assumption) | exact encYM_sz (by assumption)) (by first | exact oneCell_ic | assumption | exact one_Ws2 _ | exact one_YA2 _ | exact one_YSl2 _ | exact one_YM2 _ | exact one_YT2 _ | exact one_L2 _) (fun h => by cases h) ?_ | refine WH_store Hvac.sizeOf104 rfl (v := .agg _) rfl (Hb.h (by repeat (first | assumption | exact Hb.newY _ _ | refine Hb.alloc ?_ | refine Hb.drew ?_ | refine Hb.ext (by assumption) ?_ | exact Hb.setSameL (by first | omega | (simp only [size_alloc, size_setB, size_drew]; omega)) | exact Hb.setSame (by assumption) | refine Hb.set (by first | omega | (simp only [size_alloc, size_setB, size_drew]; omega)) ?_ ))) (by first | omega | assumption | rfl | decide | exact Nat.le_refl _ | (simp only [size_ic, Value.cells]; omega) | (simp [encWs]; done) | (simp; omega) | simp | exact encYA_sz (by assumption) | exact encYT_sz (by assumption) | exact encYM_sz (by assumption)) (by first | omega | assumption | rfl | decide | exact Nat.le_refl _ | (simp only [size_ic, Value.cells]; omega) | (simp [encWs]; done) | (simp; omega) | simp | exact encYA_sz (by assumption) | exact encYT_sz (by assumption) | exact encYM_sz (by assumption)) (by first | exact oneCell_ic | assumption | exact one_Ws2 _ | exact one_YA2 _ | exact one_YSl2 _ | exact one_YM2 _ | exact one_YT2 _ | exact one_L2 _) (fun h => by cases h) ?_
        refine WH_nil ?_
        refine F_end ?_
        refine thn_normal ?_
        exact ⟨x3, b5, ⟨rfl, rfl, rfl, trivial⟩, (by repeat (first | assumption | exact Ext.refl _ | refine Ext.alloc ?_ _ | refine Ext.drew ?_ | refine Ext.setB ?_ (by first | omega | (simp only [size_alloc, size_setB, size_drew]; omega)) _ | exact Ext.trans (by assumption) (by assumption) | refine Ext.trans ?_ (by assumption))), Hb.mk (Hb.h (by repeat (first | assumption | exact Hb.newY _ _ | refine Hb.alloc ?_ | refine Hb.drew ?_ | refine Hb.ext (by assumption) ?_ | exact Hb.setSameL (by first | omega | (simp only [size_alloc, size_setB, size_drew]; omega)) | exact Hb.setSame (by assumption) | refine Hb.set (by first | omega | (simp only [size_alloc, size_setB, size_drew]; omega)) ?_ ))), Hb.mk (Hb.h (by repeat (first | assumption | exact Hb.newY _ _ | refine Hb.alloc ?_ | refine Hb.drew ?_ | refine Hb.ext (by assumption) ?_ | exact Hb.setSameL (by first | omega | (simp only [size_alloc, size_setB, size_drew]; omega)) | exact Hb.setSame (by assumption) | refine Hb.set (by first | omega | (simp only [size_alloc, size_setB, size_drew]; omega)) ?_ ))), hxa3, (by first | assumption | (refine AcR.ext hxr3 ?_; (repeat (first | assumption | exact Ext.refl _ | refine Ext.alloc ?_ _ | refine Ext.drew ?_ | refine Ext.setB ?_ (by first | omega | (simp only [size_alloc, size_setB, size_drew]; omega)) _ | refine Ext.trans ?_ (by assumption))); done) | exact AcR.box hxr3 (Hb.mk (Hb.h (by repeat (first | assumption | exact Hb.newY _ _ | refine Hb.alloc ?_ | refine Hb.drew ?_ | refine Hb.ext (by assumption) ?_ | exact Hb.setSameL (by first | omega | (simp only [size_alloc, size_setB, size_drew]; omega)) | exact Hb.setSame (by assumption) | refine Hb.set (by first | omega | (simp only [size_alloc, size_setB, size_drew]; omega)) ?_ )))) | exact AcR.box0 hxr3 (Hb.mk (Hb.h (by repeat (first | assumption | exact Hb.newY _ _ | refine Hb.alloc ?_ | refine Hb.drew ?_ | refine Hb.ext (by assumption) ?_ | exact Hb.setSameL (by first | omega | (simp only [size_alloc, size_setB, size_drew]; omega)) | exact Hb.setSame (by assumption) | refine Hb.set (by first | omega | (simp only [size_alloc, size_setB, size_drew]; omega)) ?_ )))))⟩
    · refine WH_allocG Hvac.zeroValue104 ?_
      intro b5 v5 hg5 hE5 hH5 hl5
      try simp only [size_alloc, size_setB, size_drew] at hg5
      have hzz5 := hE5.1
      try simp only [size_alloc, size_setB, size_drew] at hzz5
      replace hH5 : Hb v5 b5 (.cells ((encYA (ac0 (List.replicate 20 0))).toArray) 104 (0, 0)) := hH5
      refine ⟨fun _ => (by repeat (first | assumption | exact Ext.refl _ | refine Ext.alloc ?_ _ | refine Ext.drew ?_ | refine Ext.setB ?_ (by first | omega | (simp only [size_alloc, size_setB, size_drew]; omega)) _ | exact Ext.trans (by assumption) (by assumption) | refine Ext.trans ?_ (by assumption))), ?_⟩
      refine WH_nil ?_
      refine F_q (i := 5) rfl (by kernel_rfl) ?_
      refine WH_call Hvac.call17 (by rfl) (Ret.mono (acctS (OmB.ext hO (by repeat (first | assumption | exact Ext.refl _ | refine Ext.alloc ?_ _ | refine Ext.drew ?_ | refine Ext.setB ?_ (by first | omega | (simp only [size_alloc, size_setB, size_drew]; omega)) _ | exact Ext.trans (by assumption) (by assumption) | refine Ext.trans ?_ (by assumption)))) (by first | assumption | exact YSS.ext (by assumption) (by repeat (first | assumption | exact Ext.refl _ | refine Ext.alloc ?_ _ | refine Ext.drew ?_ | refine Ext.setB ?_ (by first | omega | (simp only [size_alloc, size_setB, size_drew]; omega)) _ | exact Ext.trans (by assumption) (by assumption) | refine Ext.trans ?_ (by assumption)))) hB hN htx.fr) ?_)
      rintro _ w3 ⟨hE3, x3, rfl, hxa3, hxr3⟩
      refine ⟨(fun h => by cases h), ?_⟩
      have hz3 := hE3.1
      try simp only [size_alloc, size_setB, size_drew] at hz3
      have hxl3 : x3.addr.length = 20 := by rw [hxa3]; exact htx.fr.1
      have hsz3 : (encYA x3).toArray.size = 24 := by simpa using encYA_len hxl3
      have hone3 := one_YA2 x3
      have hc13 := encYA_1 hxl3
      have hc23 := encYA_2 hxl3
      have hc33 := encYA_3 hxl3
      have hnb3 := hxr3.bal
      have hnn3 := hxr3.nonce
      have hzb3 := hxr3.bz
      have hzn3 := hxr3.nz
      have hcl3 := hxr3.code.len
      have hcp3 := hxr3.code
      have hcdl3 := hB.now.cd.acct t.fr
      refine WH_nil ?_
      refine F_q (i := 7) rfl (by kernel_rfl) ?_
      first | refine WH_storeW Hvac.sizeOf104 rfl (v := .agg _) rfl (Hb.h (by repeat (first | assumption | exact Hb.newY _ _ | refine Hb.alloc ?_ | refine Hb.drew ?_ | refine Hb.ext (by assumption) ?_ | exact Hb.setSameL (by first | omega | (simp only [size_alloc, size_setB, size_drew]; omega)) | exact Hb.setSame (by assumption) | refine Hb.set (by first | omega | (simp only [size_alloc, size_setB, size_drew]; omega)) ?_ ))) rfl (by first | omega | assumption | rfl | decide | exact Nat.le_refl _ | (simp only [size_ic, Value.cells]; omega) | (simp [encWs]; done) | (simp; omega) | simp | exact encYA_sz (by assumption) | exact encYT_sz (by assumption) | exact encYM_sz (by assumption)) (by first | omega | assumption | rfl | decide | exact Nat.le_refl _ | (simp only [size_ic, Value.cells]; omega) | (simp [encWs]; done) | (simp; omega) | simp | exact encYA_sz (by assumption) | exact encYT_sz (by assumption) | exact encYM_sz (by assumption)) (by first | exact oneCell_ic | assumption | exact one_Ws2 _ | exact one_YA2 _ | exact one_YSl2 _ | exact one_YM2 _ | exact one_YT2 _ | exact one_L2 _) (fun h => by cases h) ?_ | refine WH_store Hvac.sizeOf104 rfl (v := .agg _) rfl (Hb.h (by repeat (first | assumption | exact Hb.newY _ _ | refine Hb.alloc ?_ | refine Hb.drew ?_ | refine Hb.ext (by assumption) ?_ | exact Hb.setSameL (by first | omega | (simp only [size_alloc, size_setB, size_drew]; omega)) | exact Hb.setSame (by assumption) | refine Hb.set (by first | omega | (simp only [size_alloc, size_setB, size_drew]; omega)) ?_ ))) (by first | omega | assumption | rfl | decide | exact Nat.le_refl _ | (simp only [size_ic, Value.cells]; omega) | (simp [encWs]; done) | (simp; omega) | simp | exact encYA_sz (by assumption) | exact encYT_sz (by assumption) | exact encYM_sz (by assumption)) (by first | omega | assumption | rfl | decide | exact Nat.le_refl _ | (simp only [size_ic, Value.cells]; omega) | (simp [encWs]; done) | (simp; omega) | simp | exact encYA_sz (by assumption) | exact encYT_sz (by assumption) | exact encYM_sz (by assumption)) (by first | exact oneCell_ic | assumption | exact one_Ws2 _ | exact one_YA2 _ | exact one_YSl2 _ | exact one_YM2 _ | exact one_YT2 _ | exact one_L2 _) (fun h => by cases h) ?_
      refine WH_nil ?_
      refine F_end ?_
      refine thn_normal ?_
      exact ⟨x3, b5, ⟨rfl, rfl, rfl, trivial⟩, (by repeat (first | assumption | exact Ext.refl _ | refine Ext.alloc ?_ _ | refine Ext.drew ?_ | refine Ext.setB ?_ (by first | omega | (simp only [size_alloc, size_setB, size_drew]; omega)) _ | exact Ext.trans (by assumption) (by assumption) | refine Ext.trans ?_ (by assumption))), Hb.mk (Hb.h (by repeat (first | assumption | exact Hb.newY _ _ | refine Hb.alloc ?_ | refine Hb.drew ?_ | refine Hb.ext (by assumption) ?_ | exact Hb.setSameL (by first | omega | (simp only [size_alloc, size_setB, size_drew]; omega)) | exact Hb.setSame (by assumption) | refine Hb.set (by first | omega | (simp only [size_alloc, size_setB, size_drew]; omega)) ?_ ))), Hb.mk (Hb.h (by repeat (first | assumption | exact Hb.newY _ _ | refine Hb.alloc ?_ | refine Hb.drew ?_ | refine Hb.ext (by assumption) ?_ | exact Hb.setSameL (by first | omega | (simp only [size_alloc, size_setB, size_drew]; omega)) | exact Hb.setSame (by assumption) | refine Hb.set (by first | omega | (simp only [size_alloc, size_setB, size_drew]; omega)) ?_ ))), hxa3, (by first | assumption | (refine AcR.ext hxr3 ?_; (repeat (first | assumption | exact Ext.refl _ | refine Ext.alloc ?_ _ | refine Ext.drew ?_ | refine Ext.setB ?_ (by first | omega | (simp only [size_alloc, size_setB, size_drew]; omega)) _ | refine Ext.trans ?_ (by assumption))); done) | exact AcR.box hxr3 (Hb.mk (Hb.h (by repeat (first | assumption | exact Hb.newY _ _ | refine Hb.alloc ?_ | refine Hb.drew ?_ | refine Hb.ext (by assumption) ?_ | exact Hb.setSameL (by first | omega | (simp only [size_alloc, size_setB, size_drew]; omega)) | exact Hb.setSame (by assumption) | refine Hb.set (by first | omega | (simp only [size_alloc, size_setB, size_drew]; omega)) ?_ )))) | exact AcR.box0 hxr3 (Hb.mk (Hb.h (by repeat (first | assumption | exact Hb.newY _ _ | refine Hb.alloc ?_ | refine Hb.drew ?_ | refine Hb.ext (by assumption) ?_ | exact Hb.setSameL (by first | omega | (simp only [size_alloc, size_setB, size_drew]; omega)) | exact Hb.setSame (by assumption) | refine Hb.set (by first | omega | (simp only [size_alloc, size_setB, size_drew]; omega)) ?_ )))))⟩
  · rintro ρ2 w2 ⟨x3, b5, hFr2, hE2, hb32, hb52, hxa3, hxr3⟩
    refine W_env _ hFr2 ?_
    have hz2 := hE2.1
    have hb3l := hb32.lt
    have hb5l := hb52.lt
    have hxl3 : x3.addr.length = 20 := by rw [hxa3]; exact htx.fr.1
    have hsz3 : (encYA x3).toArray.size = 24 := by simpa using encYA_len hxl3
    have hone3 := one_YA2 x3
    have hc13 := encYA_1 hxl3
    have hc23 := encYA_2 hxl3
    have hc33 := encYA_3 hxl3
    have hnb3 := hxr3.bal
    have hnn3 := hxr3.nonce
    have hzb3 := hxr3.bz
    have hzn3 := hxr3.nz
    have hcl3 := hxr3.code.len
    have hcp3 := hxr3.code
    have hcdl3 := hB.now.cd.acct t.fr
    refine W_seq ?_
    refine W_region rfl ?_
    refine WO_p (PS_fieldAddr 42 Hvac.runUnderlying35 rfl Hvac.sizeOf26 rfl rfl) ?_
    refine WO_load (.int _ _) Hvac.isAgg26 rfl (Hb.h (by repeat (first | assumption | exact Hb.newY _ _ | refine Hb.alloc ?_ | refine Hb.drew ?_ | refine Hb.ext (by assumption) ?_ | exact Hb.setSameL (by first | omega | (simp only [size_alloc, size_setB, size_drew]; omega)) | exact Hb.setSame (by assumption) | refine Hb.set (by first | omega | (simp only [size_alloc, size_setB, size_drew]; omega)) ?_ ))) (Ce.h (by first | assumption | exact ⟨rfl⟩)) ?_
    refine WO_call Hvac.call19 (by rfl) (Ret.mono (nNum_spec (OmB.ext hO (by repeat (first | assumption | exact Ext.refl _ | refine Ext.alloc ?_ _ | refine Ext.drew ?_ | refine Ext.setB ?_ (by first | omega | (simp only [size_alloc, size_setB, size_drew]; omega)) _ | exact Ext.trans (by assumption) (by assumption) | refine Ext.trans ?_ (by assumption)))) ⟨by omega, by omega⟩) ?_)
    rintro _ w19_2 ⟨hE19_2, s19_2, rfl, hN19_2, hs19_2⟩
    have hz19_2 := hE19_2.1
    try simp only [size_alloc, size_setB, size_drew] at hz19_2
    try simp only [Int.toNat_natCast, toNat_lit] at hN19_2 hs19_2
    refine WO_p (PS_assign_slice rfl) ?_
    refine WO_nil ?_
    refine thn_normal ?_
    refine W_seq ?_
    refine W_region rfl ?_
    refine WO_call Hvac.call75 (by rfl) (Ret.mono (txFees_spec b3 t _ (Hb.mk (Hb.h (by repeat (first | assumption | exact Hb.newY _ _ | refine Hb.alloc ?_ | refine Hb.drew ?_ | refine Hb.ext (by assumption) ?_ | exact Hb.setSameL (by first | omega | (simp only [size_alloc, size_setB, size_drew]; omega)) | exact Hb.setSame (by assumption) | refine Hb.set (by first | omega | (simp only [size_alloc, size_setB, size_drew]; omega)) ?_ )))) (htx.ext (by repeat (first | assumption | exact Ext.refl _ | refine Ext.alloc ?_ _ | refine Ext.drew ?_ | refine Ext.setB ?_ (by first | omega | (simp only [size_alloc, size_setB, size_drew]; omega)) _ | exact Ext.trans (by assumption) (by assumption) | refine Ext.trans ?_ (by assumption))))) ?_)
    rintro _ w75_3 ⟨rfl, hE75_3⟩
    have hz75_3 := hE75_3.1
    try simp only [size_alloc, size_setB, size_drew] at hz75_3
    refine WO_p (PS_move_tuple rfl) ?_
    refine WO_p (PS_extract_agg rfl rfl) ?_
    refine WO_p (PS_extract_agg rfl rfl) ?_
    refine WO_allocG Hvac.zeroValue28 ?_
    intro b7 v7 hg7 hE7 hH7 hl7
    try simp only [size_alloc, size_setB, size_drew] at hg7
    have hzz7 := hE7.1
    try simp only [size_alloc, size_setB, size_drew] at hzz7
    replace hH7 : Hb v7 b7 (.cells (ic .u8 (List.replicate 32 0)) 28 (0, 0)) := hH7
    refine WO_allocG Hvac.zeroValue28 ?_
    intro b8 v8 hg8 hE8 hH8 hl8
    try simp only [size_alloc, size_setB, size_drew] at hg8
    have hzz8 := hE8.1
    try simp only [size_alloc, size_setB, size_drew] at hzz8
    replace hH8 : Hb v8 b8 (.cells (ic .u8 (List.replicate 32 0)) 28 (0, 0)) := hH8
    first | refine WO_storeW Hvac.sizeOf28 rfl (v := .agg _) rfl (Hb.h (by repeat (first | assumption | exact Hb.newY _ _ | refine Hb.alloc ?_ | refine Hb.drew ?_ | refine Hb.ext (by assumption) ?_ | exact Hb.setSameL (by first | omega | (simp only [size_alloc, size_setB, size_drew]; omega)) | exact Hb.setSame (by assumption) | refine Hb.set (by first | omega | (simp only [size_alloc, size_setB, size_drew]; omega)) ?_ ))) rfl (by first | omega | assumption | rfl | decide | exact Nat.le_refl _ | (simp only [size_ic, Value.cells]; omega) | (simp [encWs]; done) | (simp; omega) | simp | exact encYA_sz (by assumption) | exact encYT_sz (by assumption) | exact encYM_sz (by assumption)) (by first | omega | assumption | rfl | decide | exact Nat.le_refl _ | (simp only [size_ic, Value.cells]; omega) | (simp [encWs]; done) | (simp; omega) | simp | exact encYA_sz (by assumption) | exact encYT_sz (by assumption) | exact encYM_sz (by assumption)) (by first | exact oneCell_ic | assumption | exact one_Ws2 _ | exact one_YA2 _ | exact one_YSl2 _ | exact one_YM2 _ | exact one_YT2 _ | exact one_L2 _) ?_ | refine WO_store Hvac.sizeOf28 rfl (v := .agg _) rfl (Hb.h (by repeat (first | assumption | exact Hb.newY _ _ | refine Hb.alloc ?_ | refine Hb.drew ?_ | refine Hb.ext (by assumption) ?_ | exact Hb.setSameL (by first | omega | (simp only [size_alloc, size_setB, size_drew]; omega)) | exact Hb.setSame (by assumption) | refine Hb.set (by first | omega | (simp only [size_alloc, size_setB, size_drew]; omega)) ?_ ))) (by first | omega | assumption | rfl | decide | exact Nat.le_refl _ | (simp only [size_ic, Value.cells]; omega) | (simp [encWs]; done) | (simp; omega) | simp | exact encYA_sz (by assumption) | exact encYT_sz (by assumption) | exact encYM_sz (by assumption)) (by first | omega | assumption | rfl | decide | exact Nat.le_refl _ | (simp only [size_ic, Value.cells]; omega) | (simp [encWs]; done) | (simp; omega) | simp | exact encYA_sz (by assumption) | exact encYT_sz (by assumption) | exact encYM_sz (by assumption)) (by first | exact oneCell_ic | assumption | exact one_Ws2 _ | exact one_YA2 _ | exact one_YSl2 _ | exact one_YM2 _ | exact one_YT2 _ | exact one_L2 _) ?_
    first | refine WO_storeW Hvac.sizeOf28 rfl (v := .agg _) rfl (Hb.h (by repeat (first | assumption | exact Hb.newY _ _ | refine Hb.alloc ?_ | refine Hb.drew ?_ | refine Hb.ext (by assumption) ?_ | exact Hb.setSameL (by first | omega | (simp only [size_alloc, size_setB, size_drew]; omega)) | exact Hb.setSame (by assumption) | refine Hb.set (by first | omega | (simp only [size_alloc, size_setB, size_drew]; omega)) ?_ ))) rfl (by first | omega | assumption | rfl | decide | exact Nat.le_refl _ | (simp only [size_ic, Value.cells]; omega) | (simp [encWs]; done) | (simp; omega) | simp | exact encYA_sz (by assumption) | exact encYT_sz (by assumption) | exact encYM_sz (by assumption)) (by first | omega | assumption | rfl | decide | exact Nat.le_refl _ | (simp only [size_ic, Value.cells]; omega) | (simp [encWs]; done) | (simp; omega) | simp | exact encYA_sz (by assumption) | exact encYT_sz (by assumption) | exact encYM_sz (by assumption)) (by first | exact oneCell_ic | assumption | exact one_Ws2 _ | exact one_YA2 _ | exact one_YSl2 _ | exact one_YM2 _ | exact one_YT2 _ | exact one_L2 _) ?_ | refine WO_store Hvac.sizeOf28 rfl (v := .agg _) rfl (Hb.h (by repeat (first | assumption | exact Hb.newY _ _ | refine Hb.alloc ?_ | refine Hb.drew ?_ | refine Hb.ext (by assumption) ?_ | exact Hb.setSameL (by first | omega | (simp only [size_alloc, size_setB, size_drew]; omega)) | exact Hb.setSame (by assumption) | refine Hb.set (by first | omega | (simp only [size_alloc, size_setB, size_drew]; omega)) ?_ ))) (by first | omega | assumption | rfl | decide | exact Nat.le_refl _ | (simp only [size_ic, Value.cells]; omega) | (simp [encWs]; done) | (simp; omega) | simp | exact encYA_sz (by assumption) | exact encYT_sz (by assumption) | exact encYM_sz (by assumption)) (by first | omega | assumption | rfl | decide | exact Nat.le_refl _ | (simp only [size_ic, Value.cells]; omega) | (simp [encWs]; done) | (simp; omega) | simp | exact encYA_sz (by assumption) | exact encYT_sz (by assumption) | exact encYM_sz (by assumption)) (by first | exact oneCell_ic | assumption | exact one_Ws2 _ | exact one_YA2 _ | exact one_YSl2 _ | exact one_YM2 _ | exact one_YT2 _ | exact one_L2 _) ?_
    refine WO_nil ?_
    refine thn_normal ?_
    refine W_seq ?_
    refine W_region rfl ?_
    refine WO_p (PS_slA Hvac.runUnderlying28 Hvac.sizeOf5 rfl (by omega)) ?_
    refine WO_call Hvac.call29 (by rfl) (Ret.mono (nBE_spec (OmB.ext hO (by repeat (first | assumption | exact Ext.refl _ | refine Ext.alloc ?_ _ | refine Ext.drew ?_ | refine Ext.setB ?_ (by first | omega | (simp only [size_alloc, size_setB, size_drew]; omega)) _ | exact Ext.trans (by assumption) (by assumption) | refine Ext.trans ?_ (by assumption)))) (AB.all (Hb.mk (Hb.h (by repeat (first | assumption | exact Hb.newY _ _ | refine Hb.alloc ?_ | refine Hb.drew ?_ | refine Hb.ext (by assumption) ?_ | exact Hb.setSameL (by first | omega | (simp only [size_alloc, size_setB, size_drew]; omega)) | exact Hb.setSame (by assumption) | refine Hb.set (by first | omega | (simp only [size_alloc, size_setB, size_drew]; omega)) ?_ )))) hf1.2 hl1) (by omega)) ?_)
    rintro _ w29_4 ⟨hE29_4, s29_4, rfl, hN29_4⟩
    have hz29_4 := hE29_4.1
    try simp only [size_alloc, size_setB, size_drew] at hz29_4
    refine WO_p (PS_assign_slice rfl) ?_
    refine WO_nil ?_
    refine thn_normal ?_
    refine W_seq ?_
    refine W_drawE [false, false, false, false, false, false, false, false] hmix (by kernel_rfl) rfl ?_
    refine WH_p (PS_move_slice rfl) rfl ?_
    refine WH_p (PS_move_slice rfl) rfl ?_
    refine WH_call Hvac.call26 (by rfl) (Ret.mono (nMul_spec (OmB.ext hO (by repeat (first | assumption | exact Ext.refl _ | refine Ext.alloc ?_ _ | refine Ext.drew ?_ | refine Ext.setB ?_ (by first | omega | (simp only [size_alloc, size_setB, size_drew]; omega)) _ | exact Ext.trans (by assumption) (by assumption) | refine Ext.trans ?_ (by assumption)))) (by first | exact NN.nil _ | assumption | exact NN.ext (by assumption) (by repeat (first | assumption | exact Ext.refl _ | refine Ext.alloc ?_ _ | refine Ext.drew ?_ | refine Ext.setB ?_ (by first | omega | (simp only [size_alloc, size_setB, size_drew]; omega)) _ | exact Ext.trans (by assumption) (by assumption) | refine Ext.trans ?_ (by assumption)))) (by first | exact NN.nil _ | assumption | exact NN.ext (by assumption) (by repeat (first | assumption | exact Ext.refl _ | refine Ext.alloc ?_ _ | refine Ext.drew ?_ | refine Ext.setB ?_ (by first | omega | (simp only [size_alloc, size_setB, size_drew]; omega)) _ | exact Ext.trans (by assumption) (by assumption) | refine Ext.trans ?_ (by assumption)))) (by first | assumption | omega | (rw [sz_zero]; omega)) (by first | assumption | omega | (rw [sz_zero]; omega))) ?_)
    rintro _ w26_5 ⟨hE26_5, s26_5, rfl, hN26_5⟩
    refine ⟨(fun h => by cases h), ?_⟩
    have hz26_5 := hE26_5.1
    try simp only [size_alloc, size_setB, size_drew] at hz26_5
    have hs26_5 := hN26_5.z_mul
    refine WH_p (PS_fieldAddr 75 Hvac.runUnderlying35 rfl Hvac.sizeOf28 rfl rfl) rfl ?_
    refine WH_p (PS_slA Hvac.runUnderlying28 Hvac.sizeOf5 rfl (by omega)) rfl ?_
    refine WH_call Hvac.call29 (by rfl) (Ret.mono (nBE_spec (OmB.ext hO (by repeat (first | assumption | exact Ext.refl _ | refine Ext.alloc ?_ _ | refine Ext.drew ?_ | refine Ext.setB ?_ (by first | omega | (simp only [size_alloc, size_setB, size_drew]; omega)) _ | exact Ext.trans (by assumption) (by assumption) | refine Ext.trans ?_ (by assumption)))) (AB.xt (Hb.mk (Hb.h (by repeat (first | assumption | exact Hb.newY _ _ | refine Hb.alloc ?_ | refine Hb.drew ?_ | refine Hb.ext (by assumption) ?_ | exact Hb.setSameL (by first | omega | (simp only [size_alloc, size_setB, size_drew]; omega)) | exact Hb.setSame (by assumption) | refine Hb.set (by first | omega | (simp only [size_alloc, size_setB, size_drew]; omega)) ?_ )))) hat.va (by omega) htx.va.1 htx.va.2) (by omega)) ?_)
    rintro _ w29_6 ⟨hE29_6, s29_6, rfl, hN29_6⟩
    refine ⟨(fun h => by cases h), ?_⟩
    have hz29_6 := hE29_6.1
    try simp only [size_alloc, size_setB, size_drew] at hz29_6
    refine WH_call Hvac.call24 (by rfl) (Ret.mono (nAdd_spec (OmB.ext hO (by repeat (first | assumption | exact Ext.refl _ | refine Ext.alloc ?_ _ | refine Ext.drew ?_ | refine Ext.setB ?_ (by first | omega | (simp only [size_alloc, size_setB, size_drew]; omega)) _ | exact Ext.trans (by assumption) (by assumption) | refine Ext.trans ?_ (by assumption)))) (by first | exact NN.nil _ | assumption | exact NN.ext (by assumption) (by repeat (first | assumption | exact Ext.refl _ | refine Ext.alloc ?_ _ | refine Ext.drew ?_ | refine Ext.setB ?_ (by first | omega | (simp only [size_alloc, size_setB, size_drew]; omega)) _ | exact Ext.trans (by assumption) (by assumption) | refine Ext.trans ?_ (by assumption)))) (by first | exact NN.nil _ | assumption | exact NN.ext (by assumption) (by repeat (first | assumption | exact Ext.refl _ | refine Ext.alloc ?_ _ | refine Ext.drew ?_ | refine Ext.setB ?_ (by first | omega | (simp only [size_alloc, size_setB, size_drew]; omega)) _ | exact Ext.trans (by assumption) (by assumption) | refine Ext.trans ?_ (by assumption)))) (by first | assumption | omega | (rw [sz_zero]; omega)) (by first | assumption | omega | (rw [sz_zero]; omega))) ?_)
    rintro _ w24_7 ⟨hE24_7, s24_7, rfl, hN24_7⟩
    refine ⟨(fun h => by cases h), ?_⟩
    have hz24_7 := hE24_7.1
    try simp only [size_alloc, size_setB, size_drew] at hz24_7
    have hs24_7 := hN24_7.z_add
    refine WH_p (PS_assign_slice rfl) rfl ?_
    refine WH_nil ?_
    refine thn_normal ?_
    refine W_seq ?_
    refine W_block ?_
    refine W_seq ?_
    refine W_region rfl ?_
    refine WO_p (PS_move_ptr rfl) ?_
    refine WO_p (PS_nilCheck rfl) ?_
    refine WO_p (PS_fieldAddr 11 Hvac.runUnderlying99 rfl Hvac.sizeOf5 rfl rfl) ?_
    refine WO_load (.int _ _) Hvac.isAgg5 rfl (Hb.h (by repeat (first | assumption | exact Hb.newY _ _ | refine Hb.alloc ?_ | refine Hb.drew ?_ | refine Hb.ext (by assumption) ?_ | exact Hb.setSameL (by first | omega | (simp only [size_alloc, size_setB, size_drew]; omega)) | exact Hb.setSame (by assumption) | refine Hb.set (by first | omega | (simp only [size_alloc, size_setB, size_drew]; omega)) ?_ ))) (Ce.h (by first | assumption | exact ⟨rfl⟩)) ?_
    refine WO_p (PS_neq rfl rfl) ?_
    refine WO_p (PS_assign_bool rfl) ?_
    refine WO_nil ?_
    refine thn_normal ?_
    refine W_if rfl (fun hb10 => ?_) (fun hb10 => ?_)
    · have hb10p := hb10.h; try simp only [al_ete, al_dfn, Bool.not_eq_true', Bool.not_eq_false', al_ne, Bool.not_not, al_nn] at hb10p
      have hc1 : y.phase ≠ 0 := by omega
      refine W_seq ?_
      refine W_region rfl ?_
      refine WO_p (PS_assign_int rfl) ?_
      refine WO_nil ?_
      refine thn_normal ?_
      refine W_ret ?_
      refine inBlk_ret ?_
      refine thn_ret ?_
      refine bodyQ_ret1 Hvac.results16 rfl (.int _ _) rfl ?_
      exact ⟨(by repeat (first | assumption | exact Ext.refl _ | refine Ext.alloc ?_ _ | refine Ext.drew ?_ | refine Ext.setB ?_ (by first | omega | (simp only [size_alloc, size_setB, size_drew]; omega)) _ | exact Ext.trans (by assumption) (by assumption) | refine Ext.trans ?_ (by assumption))), congrArg (Value.int .u8) (by unfold yverd; rw [if_pos hc1]; rfl)⟩
    · have hb10p := hb10.h; try simp only [al_ete, al_dfn, Bool.not_eq_true', Bool.not_eq_false', al_ne, Bool.not_not, al_nn] at hb10p
      have hc1 : ¬ (y.phase ≠ 0) := by omega
      refine W_seq ?_
      refine W_region rfl ?_
      refine WO_p (PS_move_ptr rfl) ?_
      refine WO_p (PS_nilCheck rfl) ?_
      refine WO_p (PS_fieldAddr 13 Hvac.runUnderlying99 rfl Hvac.sizeOf5 rfl rfl) ?_
      refine WO_load (.int _ _) Hvac.isAgg5 rfl (Hb.h (by repeat (first | assumption | exact Hb.newY _ _ | refine Hb.alloc ?_ | refine Hb.drew ?_ | refine Hb.ext (by assumption) ?_ | exact Hb.setSameL (by first | omega | (simp only [size_alloc, size_setB, size_drew]; omega)) | exact Hb.setSame (by assumption) | refine Hb.set (by first | omega | (simp only [size_alloc, size_setB, size_drew]; omega)) ?_ ))) (Ce.h (by first | assumption | exact ⟨rfl⟩)) ?_
      refine WO_p (PS_geq rfl rfl) ?_
      refine WO_p (PS_assign_bool rfl) ?_
      refine WO_nil ?_
      refine thn_normal ?_
      refine W_if rfl (fun hb12 => ?_) (fun hb12 => ?_)
      · have hb12p := hb12.h; try simp only [al_ete, al_dfn, Bool.not_eq_true', Bool.not_eq_false', al_ne, Bool.not_not, al_nn] at hb12p
        have hc2 : 4 ≤ y.applied := by omega
        refine W_seq ?_
        refine W_region rfl ?_
        refine WO_p (PS_assign_int rfl) ?_
        refine WO_nil ?_
        refine thn_normal ?_
        refine W_ret ?_
        refine inBlk_ret ?_
        refine thn_ret ?_
        refine bodyQ_ret1 Hvac.results16 rfl (.int _ _) rfl ?_
        exact ⟨(by repeat (first | assumption | exact Ext.refl _ | refine Ext.alloc ?_ _ | refine Ext.drew ?_ | refine Ext.setB ?_ (by first | omega | (simp only [size_alloc, size_setB, size_drew]; omega)) _ | exact Ext.trans (by assumption) (by assumption) | refine Ext.trans ?_ (by assumption))), congrArg (Value.int .u8) (by unfold yverd; rw [if_neg hc1, if_pos hc2]; rfl)⟩
      · have hb12p := hb12.h; try simp only [al_ete, al_dfn, Bool.not_eq_true', Bool.not_eq_false', al_ne, Bool.not_not, al_nn] at hb12p
        have hc2 : ¬ (4 ≤ y.applied) := by omega
        refine W_seq ?_
        refine W_region rfl ?_
        refine WO_p (PS_move_slice rfl) ?_
        refine WO_call Hvac.call19 (by rfl) (Ret.mono (nNum_spec (OmB.ext hO (by repeat (first | assumption | exact Ext.refl _ | refine Ext.alloc ?_ _ | refine Ext.drew ?_ | refine Ext.setB ?_ (by first | omega | (simp only [size_alloc, size_setB, size_drew]; omega)) _ | exact Ext.trans (by assumption) (by assumption) | refine Ext.trans ?_ (by assumption)))) ⟨by omega, by omega⟩) ?_)
        rintro _ w19_12 ⟨hE19_12, s19_12, rfl, hN19_12, hs19_12⟩
        have hz19_12 := hE19_12.1
        try simp only [size_alloc, size_setB, size_drew] at hz19_12
        try simp only [Int.toNat_natCast, toNat_lit] at hN19_12 hs19_12
        refine WO_call Hvac.call76 (by rfl) (Ret.mono (nCmp_spec (by first | exact NN.nil _ | assumption | exact NN.ext (by assumption) (by repeat (first | assumption | exact Ext.refl _ | refine Ext.alloc ?_ _ | refine Ext.drew ?_ | refine Ext.setB ?_ (by first | omega | (simp only [size_alloc, size_setB, size_drew]; omega)) _ | exact Ext.trans (by assumption) (by assumption) | refine Ext.trans ?_ (by assumption)))) (by first | exact NN.nil _ | assumption | exact NN.ext (by assumption) (by repeat (first | assumption | exact Ext.refl _ | refine Ext.alloc ?_ _ | refine Ext.drew ?_ | refine Ext.setB ?_ (by first | omega | (simp only [size_alloc, size_setB, size_drew]; omega)) _ | exact Ext.trans (by assumption) (by assumption) | refine Ext.trans ?_ (by assumption)))) (by first | assumption | omega | (rw [sz_zero]; omega)) (by first | assumption | omega | (rw [sz_zero]; omega))) ?_)
        rintro _ w76_13 ⟨hE76_13, rfl⟩
        have hz76_13 := hE76_13.1
        try simp only [size_alloc, size_setB, size_drew] at hz76_13
        refine WO_p (PS_gtr rfl rfl) ?_
        refine WO_p (PS_move_bool rfl) ?_
        refine WO_if (t := 50) rfl (fun hb16 => ?_) (fun hb16 => ?_)
        · have hb16p := hb16.h; try simp only [al_ete, al_dfn, Bool.not_eq_true', Bool.not_eq_false', al_ne, Bool.not_not, al_nn] at hb16p
          have hc3 : 1048576 < t.gas.toNat ∨ 1024 < t.db.length ∨ lokB t = false := Or.inl (by simpa [cmpI_gt3] using hb16p)
          refine WO_guardF rfl rfl hb16.h ?_
          refine WO_guardF rfl rfl hb16.h ?_
          refine WO_guardF rfl rfl hb16.h ?_
          refine WO_guardF rfl rfl hb16.h ?_
          refine WO_p (PS_pickT rfl hb16.h rfl) ?_
          refine WO_p (PS_move_bool rfl) ?_
          refine WO_guardF rfl rfl rfl ?_
          refine WO_guardF rfl rfl rfl ?_
          refine WO_p (PS_pickT rfl rfl rfl) ?_
          refine WO_p (PS_assign_bool rfl) ?_
          refine WO_nil ?_
          refine thn_normal ?_
          refine W_condT rfl rfl ?_
          refine W_seq ?_
          refine W_region rfl ?_
          refine WO_p (PS_assign_int rfl) ?_
          refine WO_nil ?_
          refine thn_normal ?_
          refine W_ret ?_
          refine inBlk_ret ?_
          refine thn_ret ?_
          refine bodyQ_ret1 Hvac.results16 rfl (.int _ _) rfl ?_
          exact ⟨(by repeat (first | assumption | exact Ext.refl _ | refine Ext.alloc ?_ _ | refine Ext.drew ?_ | refine Ext.setB ?_ (by first | omega | (simp only [size_alloc, size_setB, size_drew]; omega)) _ | exact Ext.trans (by assumption) (by assumption) | refine Ext.trans ?_ (by assumption))), congrArg (Value.int .u8) (by unfold yverd; rw [if_neg hc1, if_neg hc2, if_pos hc3]; rfl)⟩
        · have hb16p := hb16.h; try simp only [al_ete, al_dfn, Bool.not_eq_true', Bool.not_eq_false', al_ne, Bool.not_not, al_nn] at hb16p
          have hc31 : ¬ 1048576 < t.gas.toNat := by simpa [cmpI_gt3] using hb16p
          refine WO_guardT rfl rfl hb16.h ?_
          refine WO_p (PS_fieldAddr 107 Hvac.runUnderlying35 rfl Hvac.sizeOf32 rfl rfl) ?_
          refine WO_guardT rfl rfl hb16.h ?_
          refine WO_load (.slice _ _ _) Hvac.isAgg32 rfl (Hb.h (by repeat (first | assumption | exact Hb.newY _ _ | refine Hb.alloc ?_ | refine Hb.drew ?_ | refine Hb.ext (by assumption) ?_ | exact Hb.setSameL (by first | omega | (simp only [size_alloc, size_setB, size_drew]; omega)) | exact Hb.setSame (by assumption) | refine Hb.set (by first | omega | (simp only [size_alloc, size_setB, size_drew]; omega)) ?_ ))) (Ce.h (by first | assumption | exact ⟨rfl⟩)) ?_
          refine WO_guardT rfl rfl hb16.h ?_
          refine WO_p (PS_lenS Hvac.runUnderlying32 rfl) ?_
          refine WO_guardT rfl rfl hb16.h ?_
          refine WO_p (PS_gtr rfl rfl) ?_
          refine WO_p (PS_pickF rfl hb16.h rfl) ?_
          refine WO_p (PS_move_bool rfl) ?_
          refine WO_if (t := 56) rfl (fun hb18 => ?_) (fun hb18 => ?_)
          · have hb18p := hb18.h; try simp only [al_ete, al_dfn, Bool.not_eq_true', Bool.not_eq_false', al_ne, Bool.not_not, al_nn] at hb18p
            have hc3 : 1048576 < t.gas.toNat ∨ 1024 < t.db.length ∨ lokB t = false := Or.inr (Or.inl (by omega))
            refine WO_guardF rfl rfl hb18.h ?_
            refine WO_guardF rfl rfl hb18.h ?_
            refine WO_p (PS_pickT rfl hb18.h rfl) ?_
            refine WO_p (PS_assign_bool rfl) ?_
            refine WO_nil ?_
            refine thn_normal ?_
            refine W_condT rfl rfl ?_
            refine W_seq ?_
            refine W_region rfl ?_
            refine WO_p (PS_assign_int rfl) ?_
            refine WO_nil ?_
            refine thn_normal ?_
            refine W_ret ?_
            refine inBlk_ret ?_
            refine thn_ret ?_
            refine bodyQ_ret1 Hvac.results16 rfl (.int _ _) rfl ?_
            exact ⟨(by repeat (first | assumption | exact Ext.refl _ | refine Ext.alloc ?_ _ | refine Ext.drew ?_ | refine Ext.setB ?_ (by first | omega | (simp only [size_alloc, size_setB, size_drew]; omega)) _ | exact Ext.trans (by assumption) (by assumption) | refine Ext.trans ?_ (by assumption))), congrArg (Value.int .u8) (by unfold yverd; rw [if_neg hc1, if_neg hc2, if_pos hc3]; rfl)⟩
          · have hb18p := hb18.h; try simp only [al_ete, al_dfn, Bool.not_eq_true', Bool.not_eq_false', al_ne, Bool.not_not, al_nn] at hb18p
            have hc32 : ¬ 1024 < t.db.length := by omega
            refine WO_guardT rfl rfl hb18.h ?_
            refine WO_call Hvac.call77 (by rfl) (Ret.mono (listOK_ex b3 t _ (Hb.mk (Hb.h (by repeat (first | assumption | exact Hb.newY _ _ | refine Hb.alloc ?_ | refine Hb.drew ?_ | refine Hb.ext (by assumption) ?_ | exact Hb.setSameL (by first | omega | (simp only [size_alloc, size_setB, size_drew]; omega)) | exact Hb.setSame (by assumption) | refine Hb.set (by first | omega | (simp only [size_alloc, size_setB, size_drew]; omega)) ?_ )))) (htx.ext (by repeat (first | assumption | exact Ext.refl _ | refine Ext.alloc ?_ _ | refine Ext.drew ?_ | refine Ext.setB ?_ (by first | omega | (simp only [size_alloc, size_setB, size_drew]; omega)) _ | exact Ext.trans (by assumption) (by assumption) | refine Ext.trans ?_ (by assumption))))) ?_)
            rintro _ w77_18 ⟨hE77_18, q, rfl, hq⟩
            have hz77_18 := hE77_18.1
            try simp only [size_alloc, size_setB, size_drew] at hz77_18
            obtain rfl := eq_lokB hq
            refine WO_guardT rfl rfl hb18.h ?_
            refine WO_p (PS_not rfl) ?_
            refine WO_p (PS_pickF rfl hb18.h rfl) ?_
            refine WO_p (PS_assign_bool rfl) ?_
            refine WO_nil ?_
            refine thn_normal ?_
            refine W_if rfl (fun hb22 => ?_) (fun hb22 => ?_)
            · have hb22p := hb22.h; try simp only [al_ete, al_dfn, Bool.not_eq_true', Bool.not_eq_false', al_ne, Bool.not_not, al_nn] at hb22p
              have hc3 : 1048576 < t.gas.toNat ∨ 1024 < t.db.length ∨ lokB t = false := Or.inr (Or.inr (by simpa using hb22p))
              refine W_seq ?_
              refine W_region rfl ?_
              refine WO_p (PS_assign_int rfl) ?_
              refine WO_nil ?_
              refine thn_normal ?_
              refine W_ret ?_
              refine inBlk_ret ?_
              refine thn_ret ?_
              refine bodyQ_ret1 Hvac.results16 rfl (.int _ _) rfl ?_
              exact ⟨(by repeat (first | assumption | exact Ext.refl _ | refine Ext.alloc ?_ _ | refine Ext.drew ?_ | refine Ext.setB ?_ (by first | omega | (simp only [size_alloc, size_setB, size_drew]; omega)) _ | exact Ext.trans (by assumption) (by assumption) | refine Ext.trans ?_ (by assumption))), congrArg (Value.int .u8) (by unfold yverd; rw [if_neg hc1, if_neg hc2, if_pos hc3]; rfl)⟩
            · have hb22p := hb22.h; try simp only [al_ete, al_dfn, Bool.not_eq_true', Bool.not_eq_false', al_ne, Bool.not_not, al_nn] at hb22p
              have hlk : lokB t = true := by simpa using hb22p
              have hl : LOK t := (lokB_iff t).1 hlk
              have hc3 : ¬ (1048576 < t.gas.toNat ∨ 1024 < t.db.length ∨ lokB t = false) := by
                rintro (h9 | h9 | h9)
                · exact hc31 h9
                · exact hc32 h9
                · rw [hlk] at h9; cases h9
              have hd : t.db.length ≤ 1024 := by omega
              have hzi : sz (yintr t) ≤ 16 := by have h1 := yia_bd hd hl (Nat.le_refl _); refine Nat.le_trans (sz64 (n := yintr t) ?_) (by decide); unfold yintr ywords; split <;> omega
              refine W_seq ?_
              refine W_drawE [false, false, true, false, false, false, false, false] hmix (by kernel_rfl) rfl ?_
              refine WH_p (PS_fieldAddr 41 Hvac.runUnderlying35 rfl Hvac.sizeOf26 rfl rfl) rfl ?_
              refine WH_load (.int _ _) Hvac.isAgg26 rfl (Hb.h (by repeat (first | assumption | exact Hb.newY _ _ | refine Hb.alloc ?_ | refine Hb.drew ?_ | refine Hb.ext (by assumption) ?_ | exact Hb.setSameL (by first | omega | (simp only [size_alloc, size_setB, size_drew]; omega)) | exact Hb.setSame (by assumption) | refine Hb.set (by first | omega | (simp only [size_alloc, size_setB, size_drew]; omega)) ?_ ))) (Ce.h (by first | assumption | exact ⟨rfl⟩)) ?_
              refine WH_call Hvac.call19 (by rfl) (Ret.mono (nNum_spec (OmB.ext hO (by repeat (first | assumption | exact Ext.refl _ | refine Ext.alloc ?_ _ | refine Ext.drew ?_ | refine Ext.setB ?_ (by first | omega | (simp only [size_alloc, size_setB, size_drew]; omega)) _ | exact Ext.trans (by assumption) (by assumption) | refine Ext.trans ?_ (by assumption)))) ⟨by omega, by omega⟩) ?_)
              rintro _ w19_22 ⟨hE19_22, s19_22, rfl, hN19_22, hs19_22⟩
              refine ⟨fun _ => (by repeat (first | assumption | exact Ext.refl _ | refine Ext.alloc ?_ _ | refine Ext.drew ?_ | refine Ext.setB ?_ (by first | omega | (simp only [size_alloc, size_setB, size_drew]; omega)) _ | exact Ext.trans (by assumption) (by assumption) | refine Ext.trans ?_ (by assumption))), ?_⟩
              have hz19_22 := hE19_22.1
              try simp only [size_alloc, size_setB, size_drew] at hz19_22
              try simp only [Int.toNat_natCast, toNat_lit] at hN19_22 hs19_22
              refine WH_p (PS_fieldAddr 20 Hvac.runUnderlying104 rfl Hvac.sizeOf92 rfl rfl) rfl ?_
              refine WH_load (.slice _ _ _) Hvac.isAgg92 rfl (Hb.h (by repeat (first | assumption | exact Hb.newY _ _ | refine Hb.alloc ?_ | refine Hb.drew ?_ | refine Hb.ext (by assumption) ?_ | exact Hb.setSameL (by first | omega | (simp only [size_alloc, size_setB, size_drew]; omega)) | exact Hb.setSame (by assumption) | refine Hb.set (by first | omega | (simp only [size_alloc, size_setB, size_drew]; omega)) ?_ ))) (Ce.h (by first | assumption | exact ⟨rfl⟩)) ?_
              refine WH_call Hvac.call76 (by rfl) (Ret.mono (nCmp_spec (by first | exact NN.nil _ | assumption | exact NN.ext (by assumption) (by repeat (first | assumption | exact Ext.refl _ | refine Ext.alloc ?_ _ | refine Ext.drew ?_ | refine Ext.setB ?_ (by first | omega | (simp only [size_alloc, size_setB, size_drew]; omega)) _ | exact Ext.trans (by assumption) (by assumption) | refine Ext.trans ?_ (by assumption)))) (by first | exact NN.nil _ | assumption | exact NN.ext (by assumption) (by repeat (first | assumption | exact Ext.refl _ | refine Ext.alloc ?_ _ | refine Ext.drew ?_ | refine Ext.setB ?_ (by first | omega | (simp only [size_alloc, size_setB, size_drew]; omega)) _ | exact Ext.trans (by assumption) (by assumption) | refine Ext.trans ?_ (by assumption)))) (by first | assumption | omega | (rw [sz_zero]; omega)) (by first | assumption | omega | (rw [sz_zero]; omega))) ?_)
              rintro _ w76_23 ⟨hE76_23, rfl⟩
              refine ⟨(fun h => by cases h), ?_⟩
              have hz76_23 := hE76_23.1
              try simp only [size_alloc, size_setB, size_drew] at hz76_23
              refine WH_p (PS_neq rfl rfl) rfl ?_
              refine WH_p (PS_assign_bool rfl) rfl ?_
              refine WH_nil ?_
              refine thn_normal ?_
              refine W_if rfl (fun hb26 => ?_) (fun hb26 => ?_)
              · have hb26p := hb26.h; try simp only [al_ete, al_dfn, Bool.not_eq_true', Bool.not_eq_false', al_ne, Bool.not_not, al_nn] at hb26p
                have hc4 : t.nonce.toNat ≠ (yacct y.now.accts t.fr).nonce := by simpa [cmpI_eq2] using hb26p
                refine W_seq ?_
                refine W_region rfl ?_
                refine WO_p (PS_assign_int rfl) ?_
                refine WO_nil ?_
                refine thn_normal ?_
                refine W_ret ?_
                refine inBlk_ret ?_
                refine thn_ret ?_
                refine bodyQ_ret1 Hvac.results16 rfl (.int _ _) rfl ?_
                exact ⟨(by repeat (first | assumption | exact Ext.refl _ | refine Ext.alloc ?_ _ | refine Ext.drew ?_ | refine Ext.setB ?_ (by first | omega | (simp only [size_alloc, size_setB, size_drew]; omega)) _ | exact Ext.trans (by assumption) (by assumption) | refine Ext.trans ?_ (by assumption))), congrArg (Value.int .u8) (by unfold yverd; rw [if_neg hc1, if_neg hc2, if_neg hc3, if_pos hc4]; rfl)⟩
              · have hb26p := hb26.h; try simp only [al_ete, al_dfn, Bool.not_eq_true', Bool.not_eq_false', al_ne, Bool.not_not, al_nn] at hb26p
                have hc4 : ¬ (t.nonce.toNat ≠ (yacct y.now.accts t.fr).nonce) := by simpa [cmpI_eq2] using hb26p
                refine W_seq ?_
                refine W_drawE [false, false, true, false, false, false] hmix (by kernel_rfl) rfl ?_
                refine WH_p (PS_fieldAddr 20 Hvac.runUnderlying104 rfl Hvac.sizeOf92 rfl rfl) rfl ?_
                refine WH_load (.slice _ _ _) Hvac.isAgg92 rfl (Hb.h (by repeat (first | assumption | exact Hb.newY _ _ | refine Hb.alloc ?_ | refine Hb.drew ?_ | refine Hb.ext (by assumption) ?_ | exact Hb.setSameL (by first | omega | (simp only [size_alloc, size_setB, size_drew]; omega)) | exact Hb.setSame (by assumption) | refine Hb.set (by first | omega | (simp only [size_alloc, size_setB, size_drew]; omega)) ?_ ))) (Ce.h (by first | assumption | exact ⟨rfl⟩)) ?_
                refine WH_call Hvac.call19 (by rfl) (Ret.mono (nNum_spec (OmB.ext hO (by repeat (first | assumption | exact Ext.refl _ | refine Ext.alloc ?_ _ | refine Ext.drew ?_ | refine Ext.setB ?_ (by first | omega | (simp only [size_alloc, size_setB, size_drew]; omega)) _ | exact Ext.trans (by assumption) (by assumption) | refine Ext.trans ?_ (by assumption)))) ⟨by omega, by omega⟩) ?_)
                rintro _ w19_26 ⟨hE19_26, s19_26, rfl, hN19_26, hs19_26⟩
                refine ⟨fun _ => (by repeat (first | assumption | exact Ext.refl _ | refine Ext.alloc ?_ _ | refine Ext.drew ?_ | refine Ext.setB ?_ (by first | omega | (simp only [size_alloc, size_setB, size_drew]; omega)) _ | exact Ext.trans (by assumption) (by assumption) | refine Ext.trans ?_ (by assumption))), ?_⟩
                have hz19_26 := hE19_26.1
                try simp only [size_alloc, size_setB, size_drew] at hz19_26
                try simp only [Int.toNat_natCast, toNat_lit] at hN19_26 hs19_26
                refine WH_call Hvac.call76 (by rfl) (Ret.mono (nCmp_spec (by first | exact NN.nil _ | assumption | exact NN.ext (by assumption) (by repeat (first | assumption | exact Ext.refl _ | refine Ext.alloc ?_ _ | refine Ext.drew ?_ | refine Ext.setB ?_ (by first | omega | (simp only [size_alloc, size_setB, size_drew]; omega)) _ | exact Ext.trans (by assumption) (by assumption) | refine Ext.trans ?_ (by assumption)))) (by first | exact NN.nil _ | assumption | exact NN.ext (by assumption) (by repeat (first | assumption | exact Ext.refl _ | refine Ext.alloc ?_ _ | refine Ext.drew ?_ | refine Ext.setB ?_ (by first | omega | (simp only [size_alloc, size_setB, size_drew]; omega)) _ | exact Ext.trans (by assumption) (by assumption) | refine Ext.trans ?_ (by assumption)))) (by first | assumption | omega | (rw [sz_zero]; omega)) (by first | assumption | omega | (rw [sz_zero]; omega))) ?_)
                rintro _ w76_27 ⟨hE76_27, rfl⟩
                refine ⟨(fun h => by cases h), ?_⟩
                have hz76_27 := hE76_27.1
                try simp only [size_alloc, size_setB, size_drew] at hz76_27
                refine WH_p (PS_eql rfl rfl) rfl ?_
                refine WH_p (PS_assign_bool rfl) rfl ?_
                refine WH_nil ?_
                refine thn_normal ?_
                refine W_if rfl (fun hb30 => ?_) (fun hb30 => ?_)
                · have hb30p := hb30.h; try simp only [al_ete, al_dfn, Bool.not_eq_true', Bool.not_eq_false', al_ne, Bool.not_not, al_nn] at hb30p
                  have hc5 : (yacct y.now.accts t.fr).nonce = 18446744073709551615 := by simpa [cmpI_eq2] using hb30p
                  refine W_seq ?_
                  refine W_region rfl ?_
                  refine WO_p (PS_assign_int rfl) ?_
                  refine WO_nil ?_
                  refine thn_normal ?_
                  refine W_ret ?_
                  refine inBlk_ret ?_
                  refine thn_ret ?_
                  refine bodyQ_ret1 Hvac.results16 rfl (.int _ _) rfl ?_
                  exact ⟨(by repeat (first | assumption | exact Ext.refl _ | refine Ext.alloc ?_ _ | refine Ext.drew ?_ | refine Ext.setB ?_ (by first | omega | (simp only [size_alloc, size_setB, size_drew]; omega)) _ | exact Ext.trans (by assumption) (by assumption) | refine Ext.trans ?_ (by assumption))), congrArg (Value.int .u8) (by unfold yverd; rw [if_neg hc1, if_neg hc2, if_neg hc3, if_neg hc4, if_pos hc5]; rfl)⟩
                · have hb30p := hb30.h; try simp only [al_ete, al_dfn, Bool.not_eq_true', Bool.not_eq_false', al_ne, Bool.not_not, al_nn] at hb30p
                  have hc5 : ¬ ((yacct y.now.accts t.fr).nonce = 18446744073709551615) := by simpa [cmpI_eq2] using hb30p
                  refine W_seq ?_
                  refine W_region rfl ?_
                  refine WO_p (PS_fieldAddr 22 Hvac.runUnderlying104 rfl Hvac.sizeOf32 rfl rfl) ?_
                  refine WO_load (.slice _ _ _) Hvac.isAgg32 rfl (Hb.h (by repeat (first | assumption | exact Hb.newY _ _ | refine Hb.alloc ?_ | refine Hb.drew ?_ | refine Hb.ext (by assumption) ?_ | exact Hb.setSameL (by first | omega | (simp only [size_alloc, size_setB, size_drew]; omega)) | exact Hb.setSame (by assumption) | refine Hb.set (by first | omega | (simp only [size_alloc, size_setB, size_drew]; omega)) ?_ ))) (Ce.h (by first | assumption | exact ⟨rfl⟩)) ?_
                  refine WO_p (PS_lenS Hvac.runUnderlying32 rfl) ?_
                  refine WO_p (PS_gtr rfl rfl) ?_
                  refine WO_p (PS_assign_bool rfl) ?_
                  refine WO_nil ?_
                  refine thn_normal ?_
                  refine W_if rfl (fun hb32 => ?_) (fun hb32 => ?_)
                  · have hb32p := hb32.h; try simp only [al_ete, al_dfn, Bool.not_eq_true', Bool.not_eq_false', al_ne, Bool.not_not, al_nn] at hb32p
                    have hc6 : 0 < (yacct y.now.accts t.fr).code.length := by omega
                    refine W_seq ?_
                    refine W_region rfl ?_
                    refine WO_p (PS_assign_int rfl) ?_
                    refine WO_nil ?_
                    refine thn_normal ?_
                    refine W_ret ?_
                    refine inBlk_ret ?_
                    refine thn_ret ?_
                    refine bodyQ_ret1 Hvac.results16 rfl (.int _ _) rfl ?_
                    exact ⟨(by repeat (first | assumption | exact Ext.refl _ | refine Ext.alloc ?_ _ | refine Ext.drew ?_ | refine Ext.setB ?_ (by first | omega | (simp only [size_alloc, size_setB, size_drew]; omega)) _ | exact Ext.trans (by assumption) (by assumption) | refine Ext.trans ?_ (by assumption))), congrArg (Value.int .u8) (by unfold yverd; rw [if_neg hc1, if_neg hc2, if_neg hc3, if_neg hc4, if_neg hc5, if_pos hc6]; rfl)⟩
                  · have hb32p := hb32.h; try simp only [al_ete, al_dfn, Bool.not_eq_true', Bool.not_eq_false', al_ne, Bool.not_not, al_nn] at hb32p
                    have hc6 : ¬ (0 < (yacct y.now.accts t.fr).code.length) := by omega
                    refine W_seq ?_
                    refine W_region rfl ?_
                    refine WO_p (PS_fieldAddr 40 Hvac.runUnderlying35 rfl Hvac.sizeOf4 rfl rfl) ?_
                    refine WO_load (.bool _) Hvac.isAgg4 rfl (Hb.h (by repeat (first | assumption | exact Hb.newY _ _ | refine Hb.alloc ?_ | refine Hb.drew ?_ | refine Hb.ext (by assumption) ?_ | exact Hb.setSameL (by first | omega | (simp only [size_alloc, size_setB, size_drew]; omega)) | exact Hb.setSame (by assumption) | refine Hb.set (by first | omega | (simp only [size_alloc, size_setB, size_drew]; omega)) ?_ ))) (Ce.h (by first | assumption | exact ⟨rfl⟩)) ?_
                    refine WO_p (PS_move_bool rfl) ?_
                    refine WO_if (t := 82) rfl (fun hb34 => ?_) (fun hb34 => ?_)
                    · have hb34p := hb34.h; try simp only [al_ete, al_dfn, Bool.not_eq_true', Bool.not_eq_false', al_ne, Bool.not_not, al_nn] at hb34p
                      have hcr1 : t.create = true := hb34p
                      refine WO_guardT rfl rfl hb34.h ?_
                      refine WO_p (PS_fieldAddr 107 Hvac.runUnderlying35 rfl Hvac.sizeOf32 rfl rfl) ?_
                      refine WO_guardT rfl rfl hb34.h ?_
                      refine WO_load (.slice _ _ _) Hvac.isAgg32 rfl (Hb.h (by repeat (first | assumption | exact Hb.newY _ _ | refine Hb.alloc ?_ | refine Hb.drew ?_ | refine Hb.ext (by assumption) ?_ | exact Hb.setSameL (by first | omega | (simp only [size_alloc, size_setB, size_drew]; omega)) | exact Hb.setSame (by assumption) | refine Hb.set (by first | omega | (simp only [size_alloc, size_setB, size_drew]; omega)) ?_ ))) (Ce.h (by first | assumption | exact ⟨rfl⟩)) ?_
                      refine WO_guardT rfl rfl hb34.h ?_
                      refine WO_p (PS_lenS Hvac.runUnderlying32 rfl) ?_
                      refine WO_guardT rfl rfl hb34.h ?_
                      refine WO_p (PS_gtr rfl rfl) ?_
                      refine WO_p (PS_pickT rfl hb34.h rfl) ?_
                      refine WO_p (PS_assign_bool rfl) ?_
                      refine WO_nil ?_
                      refine thn_normal ?_
                      refine W_if rfl (fun hb36 => ?_) (fun hb36 => ?_)
                      · have hb36p := hb36.h; try simp only [al_ete, al_dfn, Bool.not_eq_true', Bool.not_eq_false', al_ne, Bool.not_not, al_nn] at hb36p
                        have hc7 : t.create = true ∧ 512 < t.db.length := ⟨hcr1, by omega⟩
                        refine W_seq ?_
                        refine W_region rfl ?_
                        refine WO_p (PS_assign_int rfl) ?_
                        refine WO_nil ?_
                        refine thn_normal ?_
                        refine W_ret ?_
                        refine inBlk_ret ?_
                        refine thn_ret ?_
                        refine bodyQ_ret1 Hvac.results16 rfl (.int _ _) rfl ?_
                        exact ⟨(by repeat (first | assumption | exact Ext.refl _ | refine Ext.alloc ?_ _ | refine Ext.drew ?_ | refine Ext.setB ?_ (by first | omega | (simp only [size_alloc, size_setB, size_drew]; omega)) _ | exact Ext.trans (by assumption) (by assumption) | refine Ext.trans ?_ (by assumption))), congrArg (Value.int .u8) (by unfold yverd; rw [if_neg hc1, if_neg hc2, if_neg hc3, if_neg hc4, if_neg hc5, if_neg hc6, if_pos hc7]; rfl)⟩
                      · have hb36p := hb36.h; try simp only [al_ete, al_dfn, Bool.not_eq_true', Bool.not_eq_false', al_ne, Bool.not_not, al_nn] at hb36p
                        have hc7 : ¬ (t.create = true ∧ 512 < t.db.length) := fun h9 => by omega
                        refine W_seq ?_
                        refine W_region rfl ?_
                        refine WO_p (PS_move_slice rfl) ?_
                        refine WO_loadA _ Hvac.isAgg35 Hvac.sizeOf35 rfl (Hb.h (by repeat (first | assumption | exact Hb.newY _ _ | refine Hb.alloc ?_ | refine Hb.drew ?_ | refine Hb.ext (by assumption) ?_ | exact Hb.setSameL (by first | omega | (simp only [size_alloc, size_setB, size_drew]; omega)) | exact Hb.setSame (by assumption) | refine Hb.set (by first | omega | (simp only [size_alloc, size_setB, size_drew]; omega)) ?_ ))) (by first | omega | assumption | rfl | decide | exact Nat.le_refl _ | (simp only [size_ic, Value.cells]; omega) | (simp [encWs]; done) | (simp; omega) | simp | exact encYA_sz (by assumption) | exact encYT_sz (by assumption) | exact encYM_sz (by assumption)) (Xt.h (by first | assumption | exact Xt.whole rfl rfl | exact Xt.whole rfl (by assumption) | exact Xt.whole rfl (by simp only [size_ic, Value.cells]; omega) | exact ⟨rfl⟩)) ?_
                        refine WO_call Hvac.call21 (by rfl) (Ret.mono (yIntrinsic_spec _ (OmB.ext hO (by repeat (first | assumption | exact Ext.refl _ | refine Ext.alloc ?_ _ | refine Ext.drew ?_ | refine Ext.setB ?_ (by first | omega | (simp only [size_alloc, size_setB, size_drew]; omega)) _ | exact Ext.trans (by assumption) (by assumption) | refine Ext.trans ?_ (by assumption)))) t (htx.ext (by repeat (first | assumption | exact Ext.refl _ | refine Ext.alloc ?_ _ | refine Ext.drew ?_ | refine Ext.setB ?_ (by first | omega | (simp only [size_alloc, size_setB, size_drew]; omega)) _ | exact Ext.trans (by assumption) (by assumption) | refine Ext.trans ?_ (by assumption)))) hd hl) ?_)
                        rintro _ w21_36 ⟨hE21_36, s21_36, rfl, hN21_36⟩
                        have hz21_36 := hE21_36.1
                        try simp only [size_alloc, size_setB, size_drew] at hz21_36
                        refine WO_call Hvac.call76 (by rfl) (Ret.mono (nCmp_spec (by first | exact NN.nil _ | assumption | exact NN.ext (by assumption) (by repeat (first | assumption | exact Ext.refl _ | refine Ext.alloc ?_ _ | refine Ext.drew ?_ | refine Ext.setB ?_ (by first | omega | (simp only [size_alloc, size_setB, size_drew]; omega)) _ | exact Ext.trans (by assumption) (by assumption) | refine Ext.trans ?_ (by assumption)))) (by first | exact NN.nil _ | assumption | exact NN.ext (by assumption) (by repeat (first | assumption | exact Ext.refl _ | refine Ext.alloc ?_ _ | refine Ext.drew ?_ | refine Ext.setB ?_ (by first | omega | (simp only [size_alloc, size_setB, size_drew]; omega)) _ | exact Ext.trans (by assumption) (by assumption) | refine Ext.trans ?_ (by assumption)))) (by first | assumption | omega | (rw [sz_zero]; omega)) (by first | assumption | omega | (rw [sz_zero]; omega))) ?_)
                        rintro _ w76_37 ⟨hE76_37, rfl⟩
                        have hz76_37 := hE76_37.1
                        try simp only [size_alloc, size_setB, size_drew] at hz76_37
                        refine WO_p (PS_lss rfl rfl) ?_
                        refine WO_p (PS_assign_bool rfl) ?_
                        refine WO_nil ?_
                        refine thn_normal ?_
                        refine W_if rfl (fun hb40 => ?_) (fun hb40 => ?_)
                        · have hb40p := hb40.h; try simp only [al_ete, al_dfn, Bool.not_eq_true', Bool.not_eq_false', al_ne, Bool.not_not, al_nn] at hb40p
                          have hc8 : t.gas.toNat < yintr t := by simpa [cmpI_lt2] using hb40p
                          refine W_seq ?_
                          refine W_region rfl ?_
                          refine WO_p (PS_assign_int rfl) ?_
                          refine WO_nil ?_
                          refine thn_normal ?_
                          refine W_ret ?_
                          refine inBlk_ret ?_
                          refine thn_ret ?_
                          refine bodyQ_ret1 Hvac.results16 rfl (.int _ _) rfl ?_
                          exact ⟨(by repeat (first | assumption | exact Ext.refl _ | refine Ext.alloc ?_ _ | refine Ext.drew ?_ | refine Ext.setB ?_ (by first | omega | (simp only [size_alloc, size_setB, size_drew]; omega)) _ | exact Ext.trans (by assumption) (by assumption) | refine Ext.trans ?_ (by assumption))), congrArg (Value.int .u8) (by unfold yverd; rw [if_neg hc1, if_neg hc2, if_neg hc3, if_neg hc4, if_neg hc5, if_neg hc6, if_neg hc7, if_pos hc8]; rfl)⟩
                        · have hb40p := hb40.h; try simp only [al_ete, al_dfn, Bool.not_eq_true', Bool.not_eq_false', al_ne, Bool.not_not, al_nn] at hb40p
                          have hc8 : ¬ (t.gas.toNat < yintr t) := by simpa [cmpI_lt2] using hb40p
                          refine W_seq ?_
                          refine W_region rfl ?_
                          refine WO_p (PS_move_slice rfl) ?_
                          refine WO_p (PS_move_ptr rfl) ?_
                          refine WO_p (PS_nilCheck rfl) ?_
                          refine WO_p (PS_fieldAddr 59 Hvac.runUnderlying99 rfl Hvac.sizeOf31 rfl rfl) ?_
                          refine WO_p (PS_fieldAddr 22 Hvac.runUnderlying31 rfl Hvac.sizeOf26 rfl rfl) ?_
                          refine WO_load (.int _ _) Hvac.isAgg26 rfl (Hb.h (by repeat (first | assumption | exact Hb.newY _ _ | refine Hb.alloc ?_ | refine Hb.drew ?_ | refine Hb.ext (by assumption) ?_ | exact Hb.setSameL (by first | omega | (simp only [size_alloc, size_setB, size_drew]; omega)) | exact Hb.setSame (by assumption) | refine Hb.set (by first | omega | (simp only [size_alloc, size_setB, size_drew]; omega)) ?_ ))) (Ce.h (by first | assumption | exact ⟨rfl⟩)) ?_
                          refine WO_call Hvac.call19 (by rfl) (Ret.mono (nNum_spec (OmB.ext hO (by repeat (first | assumption | exact Ext.refl _ | refine Ext.alloc ?_ _ | refine Ext.drew ?_ | refine Ext.setB ?_ (by first | omega | (simp only [size_alloc, size_setB, size_drew]; omega)) _ | exact Ext.trans (by assumption) (by assumption) | refine Ext.trans ?_ (by assumption)))) ⟨by omega, by omega⟩) ?_)
                          rintro _ w19_40 ⟨hE19_40, s19_40, rfl, hN19_40, hs19_40⟩
                          have hz19_40 := hE19_40.1
                          try simp only [size_alloc, size_setB, size_drew] at hz19_40
                          try simp only [Int.toNat_natCast, toNat_lit] at hN19_40 hs19_40
                          refine WO_call Hvac.call76 (by rfl) (Ret.mono (nCmp_spec (by first | exact NN.nil _ | assumption | exact NN.ext (by assumption) (by repeat (first | assumption | exact Ext.refl _ | refine Ext.alloc ?_ _ | refine Ext.drew ?_ | refine Ext.setB ?_ (by first | omega | (simp only [size_alloc, size_setB, size_drew]; omega)) _ | exact Ext.trans (by assumption) (by assumption) | refine Ext.trans ?_ (by assumption)))) (by first | exact NN.nil _ | assumption | exact NN.ext (by assumption) (by repeat (first | assumption | exact Ext.refl _ | refine Ext.alloc ?_ _ | refine Ext.drew ?_ | refine Ext.setB ?_ (by first | omega | (simp only [size_alloc, size_setB, size_drew]; omega)) _ | exact Ext.trans (by assumption) (by assumption) | refine Ext.trans ?_ (by assumption)))) (by first | assumption | omega | (rw [sz_zero]; omega)) (by first | assumption | omega | (rw [sz_zero]; omega))) ?_)
                          rintro _ w76_41 ⟨hE76_41, rfl⟩
                          have hz76_41 := hE76_41.1
                          try simp only [size_alloc, size_setB, size_drew] at hz76_41
                          refine WO_p (PS_gtr rfl rfl) ?_
                          refine WO_p (PS_assign_bool rfl) ?_
                          refine WO_nil ?_
                          refine thn_normal ?_
                          refine W_if rfl (fun hb44 => ?_) (fun hb44 => ?_)
                          · have hb44p := hb44.h; try simp only [al_ete, al_dfn, Bool.not_eq_true', Bool.not_eq_false', al_ne, Bool.not_not, al_nn] at hb44p
                            have hc9 : y.env.glim.toNat < t.gas.toNat := by simpa [cmpI_gt3, ← hEe] using hb44p
                            refine W_seq ?_
                            refine W_region rfl ?_
                            refine WO_p (PS_assign_int rfl) ?_
                            refine WO_nil ?_
                            refine thn_normal ?_
                            refine W_ret ?_
                            refine inBlk_ret ?_
                            refine thn_ret ?_
                            refine bodyQ_ret1 Hvac.results16 rfl (.int _ _) rfl ?_
                            exact ⟨(by repeat (first | assumption | exact Ext.refl _ | refine Ext.alloc ?_ _ | refine Ext.drew ?_ | refine Ext.setB ?_ (by first | omega | (simp only [size_alloc, size_setB, size_drew]; omega)) _ | exact Ext.trans (by assumption) (by assumption) | refine Ext.trans ?_ (by assumption))), congrArg (Value.int .u8) (by unfold yverd; rw [if_neg hc1, if_neg hc2, if_neg hc3, if_neg hc4, if_neg hc5, if_neg hc6, if_neg hc7, if_neg hc8, if_pos hc9]; rfl)⟩
                          · have hb44p := hb44.h; try simp only [al_ete, al_dfn, Bool.not_eq_true', Bool.not_eq_false', al_ne, Bool.not_not, al_nn] at hb44p
                            have hc9 : ¬ (y.env.glim.toNat < t.gas.toNat) := by simpa [cmpI_gt3, ← hEe] using hb44p
                            refine W_seq ?_
                            refine W_region rfl ?_
                            refine WO_p (PS_fieldAddr 21 Hvac.runUnderlying104 rfl Hvac.sizeOf92 rfl rfl) ?_
                            refine WO_load (.slice _ _ _) Hvac.isAgg92 rfl (Hb.h (by repeat (first | assumption | exact Hb.newY _ _ | refine Hb.alloc ?_ | refine Hb.drew ?_ | refine Hb.ext (by assumption) ?_ | exact Hb.setSameL (by first | omega | (simp only [size_alloc, size_setB, size_drew]; omega)) | exact Hb.setSame (by assumption) | refine Hb.set (by first | omega | (simp only [size_alloc, size_setB, size_drew]; omega)) ?_ ))) (Ce.h (by first | assumption | exact ⟨rfl⟩)) ?_
                            refine WO_p (PS_move_slice rfl) ?_
                            refine WO_call Hvac.call76 (by rfl) (Ret.mono (nCmp_spec (by first | exact NN.nil _ | assumption | exact NN.ext (by assumption) (by repeat (first | assumption | exact Ext.refl _ | refine Ext.alloc ?_ _ | refine Ext.drew ?_ | refine Ext.setB ?_ (by first | omega | (simp only [size_alloc, size_setB, size_drew]; omega)) _ | exact Ext.trans (by assumption) (by assumption) | refine Ext.trans ?_ (by assumption)))) (by first | exact NN.nil _ | assumption | exact NN.ext (by assumption) (by repeat (first | assumption | exact Ext.refl _ | refine Ext.alloc ?_ _ | refine Ext.drew ?_ | refine Ext.setB ?_ (by first | omega | (simp only [size_alloc, size_setB, size_drew]; omega)) _ | exact Ext.trans (by assumption) (by assumption) | refine Ext.trans ?_ (by assumption)))) (by first | assumption | omega | (rw [sz_zero]; omega)) (by first | assumption | omega | (rw [sz_zero]; omega))) ?_)
                            rintro _ w76_44 ⟨hE76_44, rfl⟩
                            have hz76_44 := hE76_44.1
                            try simp only [size_alloc, size_setB, size_drew] at hz76_44
                            refine WO_p (PS_lss rfl rfl) ?_
                            refine WO_p (PS_assign_bool rfl) ?_
                            refine WO_nil ?_
                            refine thn_normal ?_
                            refine W_if rfl (fun hb47 => ?_) (fun hb47 => ?_)
                            · have hb47p := hb47.h; try simp only [al_ete, al_dfn, Bool.not_eq_true', Bool.not_eq_false', al_ne, Bool.not_not, al_nn] at hb47p
                              have hc10 : (yacct y.now.accts t.fr).bal < t.gas.toNat * bvY (feeB t).1 + bvY t.value := by simpa [cmpI_lt2] using hb47p
                              refine W_seq ?_
                              refine W_region rfl ?_
                              refine WO_p (PS_assign_int rfl) ?_
                              refine WO_nil ?_
                              refine thn_normal ?_
                              refine W_ret ?_
                              refine inBlk_ret ?_
                              refine thn_ret ?_
                              refine bodyQ_ret1 Hvac.results16 rfl (.int _ _) rfl ?_
                              exact ⟨(by repeat (first | assumption | exact Ext.refl _ | refine Ext.alloc ?_ _ | refine Ext.drew ?_ | refine Ext.setB ?_ (by first | omega | (simp only [size_alloc, size_setB, size_drew]; omega)) _ | exact Ext.trans (by assumption) (by assumption) | refine Ext.trans ?_ (by assumption))), congrArg (Value.int .u8) (by unfold yverd; rw [if_neg hc1, if_neg hc2, if_neg hc3, if_neg hc4, if_neg hc5, if_neg hc6, if_neg hc7, if_neg hc8, if_neg hc9, if_pos hc10]; rfl)⟩
                            · have hb47p := hb47.h; try simp only [al_ete, al_dfn, Bool.not_eq_true', Bool.not_eq_false', al_ne, Bool.not_not, al_nn] at hb47p
                              have hc10 : ¬ ((yacct y.now.accts t.fr).bal < t.gas.toNat * bvY (feeB t).1 + bvY t.value) := by simpa [cmpI_lt2] using hb47p
                              refine W_seq ?_
                              refine W_region rfl ?_
                              refine WO_p (PS_slA Hvac.runUnderlying28 Hvac.sizeOf5 rfl (by omega)) ?_
                              refine WO_call Hvac.call29 (by rfl) (Ret.mono (nBE_spec (OmB.ext hO (by repeat (first | assumption | exact Ext.refl _ | refine Ext.alloc ?_ _ | refine Ext.drew ?_ | refine Ext.setB ?_ (by first | omega | (simp only [size_alloc, size_setB, size_drew]; omega)) _ | exact Ext.trans (by assumption) (by assumption) | refine Ext.trans ?_ (by assumption)))) (AB.all (Hb.mk (Hb.h (by repeat (first | assumption | exact Hb.newY _ _ | refine Hb.alloc ?_ | refine Hb.drew ?_ | refine Hb.ext (by assumption) ?_ | exact Hb.setSameL (by first | omega | (simp only [size_alloc, size_setB, size_drew]; omega)) | exact Hb.setSame (by assumption) | refine Hb.set (by first | omega | (simp only [size_alloc, size_setB, size_drew]; omega)) ?_ )))) hf2.2 hl2) (by omega)) ?_)
                              rintro _ w29_47 ⟨hE29_47, s29_47, rfl, hN29_47⟩
                              have hz29_47 := hE29_47.1
                              try simp only [size_alloc, size_setB, size_drew] at hz29_47
                              refine WO_p (PS_move_slice rfl) ?_
                              refine WO_call Hvac.call76 (by rfl) (Ret.mono (nCmp_spec (by first | exact NN.nil _ | assumption | exact NN.ext (by assumption) (by repeat (first | assumption | exact Ext.refl _ | refine Ext.alloc ?_ _ | refine Ext.drew ?_ | refine Ext.setB ?_ (by first | omega | (simp only [size_alloc, size_setB, size_drew]; omega)) _ | exact Ext.trans (by assumption) (by assumption) | refine Ext.trans ?_ (by assumption)))) (by first | exact NN.nil _ | assumption | exact NN.ext (by assumption) (by repeat (first | assumption | exact Ext.refl _ | refine Ext.alloc ?_ _ | refine Ext.drew ?_ | refine Ext.setB ?_ (by first | omega | (simp only [size_alloc, size_setB, size_drew]; omega)) _ | exact Ext.trans (by assumption) (by assumption) | refine Ext.trans ?_ (by assumption)))) (by first | assumption | omega | (rw [sz_zero]; omega)) (by first | assumption | omega | (rw [sz_zero]; omega))) ?_)
                              rintro _ w76_48 ⟨hE76_48, rfl⟩
                              have hz76_48 := hE76_48.1
                              try simp only [size_alloc, size_setB, size_drew] at hz76_48
                              refine WO_p (PS_gtr rfl rfl) ?_
                              refine WO_p (PS_assign_bool rfl) ?_
                              refine WO_nil ?_
                              refine thn_normal ?_
                              refine W_if rfl (fun hb51 => ?_) (fun hb51 => ?_)
                              · have hb51p := hb51.h; try simp only [al_ete, al_dfn, Bool.not_eq_true', Bool.not_eq_false', al_ne, Bool.not_not, al_nn] at hb51p
                                have hc11 : bvY (feeB t).1 < bvY (feeB t).2 := by simpa [cmpI_gt3] using hb51p
                                refine W_seq ?_
                                refine W_region rfl ?_
                                refine WO_p (PS_assign_int rfl) ?_
                                refine WO_nil ?_
                                refine thn_normal ?_
                                refine W_ret ?_
                                refine inBlk_ret ?_
                                refine thn_ret ?_
                                refine bodyQ_ret1 Hvac.results16 rfl (.int _ _) rfl ?_
                                exact ⟨(by repeat (first | assumption | exact Ext.refl _ | refine Ext.alloc ?_ _ | refine Ext.drew ?_ | refine Ext.setB ?_ (by first | omega | (simp only [size_alloc, size_setB, size_drew]; omega)) _ | exact Ext.trans (by assumption) (by assumption) | refine Ext.trans ?_ (by assumption))), congrArg (Value.int .u8) (by unfold yverd; rw [if_neg hc1, if_neg hc2, if_neg hc3, if_neg hc4, if_neg hc5, if_neg hc6, if_neg hc7, if_neg hc8, if_neg hc9, if_neg hc10, if_pos hc11]; rfl)⟩
                              · have hb51p := hb51.h; try simp only [al_ete, al_dfn, Bool.not_eq_true', Bool.not_eq_false', al_ne, Bool.not_not, al_nn] at hb51p
                                have hc11 : ¬ (bvY (feeB t).1 < bvY (feeB t).2) := by simpa [cmpI_gt3] using hb51p
                                refine W_seq ?_
                                refine W_region rfl ?_
                                refine WO_p (PS_move_slice rfl) ?_
                                refine WO_p (PS_move_ptr rfl) ?_
                                refine WO_call Hvac.call78 (by rfl) (Ret.mono (yBaseFee_spec _ (OmB.ext hO (by repeat (first | assumption | exact Ext.refl _ | refine Ext.alloc ?_ _ | refine Ext.drew ?_ | refine Ext.setB ?_ (by first | omega | (simp only [size_alloc, size_setB, size_drew]; omega)) _ | exact Ext.trans (by assumption) (by assumption) | refine Ext.trans ?_ (by assumption)))) _ _ _ (by first | assumption | exact YSS.ext (by assumption) (by repeat (first | assumption | exact Ext.refl _ | refine Ext.alloc ?_ _ | refine Ext.drew ?_ | refine Ext.setB ?_ (by first | omega | (simp only [size_alloc, size_setB, size_drew]; omega)) _ | exact Ext.trans (by assumption) (by assumption) | refine Ext.trans ?_ (by assumption))))) ?_)
                                rintro _ w78_51 ⟨hE78_51, s78_51, rfl, hN78_51⟩
                                have hz78_51 := hE78_51.1
                                try simp only [size_alloc, size_setB, size_drew] at hz78_51
                                refine WO_call Hvac.call76 (by rfl) (Ret.mono (nCmp_spec (by first | exact NN.nil _ | assumption | exact NN.ext (by assumption) (by repeat (first | assumption | exact Ext.refl _ | refine Ext.alloc ?_ _ | refine Ext.drew ?_ | refine Ext.setB ?_ (by first | omega | (simp only [size_alloc, size_setB, size_drew]; omega)) _ | exact Ext.trans (by assumption) (by assumption) | refine Ext.trans ?_ (by assumption)))) (by first | exact NN.nil _ | assumption | exact NN.ext (by assumption) (by repeat (first | assumption | exact Ext.refl _ | refine Ext.alloc ?_ _ | refine Ext.drew ?_ | refine Ext.setB ?_ (by first | omega | (simp only [size_alloc, size_setB, size_drew]; omega)) _ | exact Ext.trans (by assumption) (by assumption) | refine Ext.trans ?_ (by assumption)))) (by first | assumption | omega | (rw [sz_zero]; omega)) (by first | assumption | omega | (rw [sz_zero]; omega))) ?_)
                                rintro _ w76_52 ⟨hE76_52, rfl⟩
                                have hz76_52 := hE76_52.1
                                try simp only [size_alloc, size_setB, size_drew] at hz76_52
                                refine WO_p (PS_lss rfl rfl) ?_
                                refine WO_p (PS_assign_bool rfl) ?_
                                refine WO_nil ?_
                                refine thn_normal ?_
                                refine W_if rfl (fun hb55 => ?_) (fun hb55 => ?_)
                                · have hb55p := hb55.h; try simp only [al_ete, al_dfn, Bool.not_eq_true', Bool.not_eq_false', al_ne, Bool.not_not, al_nn] at hb55p
                                  have hc12 : bvY (feeB t).1 < bvY y.env.bfee := by simpa [cmpI_lt2] using hb55p
                                  refine W_seq ?_
                                  refine W_region rfl ?_
                                  refine WO_p (PS_assign_int rfl) ?_
                                  refine WO_nil ?_
                                  refine thn_normal ?_
                                  refine W_ret ?_
                                  refine inBlk_ret ?_
                                  refine thn_ret ?_
                                  refine bodyQ_ret1 Hvac.results16 rfl (.int _ _) rfl ?_
                                  exact ⟨(by repeat (first | assumption | exact Ext.refl _ | refine Ext.alloc ?_ _ | refine Ext.drew ?_ | refine Ext.setB ?_ (by first | omega | (simp only [size_alloc, size_setB, size_drew]; omega)) _ | exact Ext.trans (by assumption) (by assumption) | refine Ext.trans ?_ (by assumption))), congrArg (Value.int .u8) (by unfold yverd; rw [if_neg hc1, if_neg hc2, if_neg hc3, if_neg hc4, if_neg hc5, if_neg hc6, if_neg hc7, if_neg hc8, if_neg hc9, if_neg hc10, if_neg hc11, if_pos hc12]; rfl)⟩
                                · have hb55p := hb55.h; try simp only [al_ete, al_dfn, Bool.not_eq_true', Bool.not_eq_false', al_ne, Bool.not_not, al_nn] at hb55p
                                  have hc12 : ¬ (bvY (feeB t).1 < bvY y.env.bfee) := by simpa [cmpI_lt2] using hb55p
                                  refine W_skip ?_
                                  refine inBlk_normal ?_
                                  refine thn_normal ?_
                                  refine W_seq ?_
                                  refine W_region rfl ?_
                                  refine WO_p (PS_assign_int rfl) ?_
                                  refine WO_nil ?_
                                  refine thn_normal ?_
                                  refine W_ret ?_
                                  refine bodyQ_ret1 Hvac.results16 rfl (.int _ _) rfl ?_
                                  exact ⟨(by repeat (first | assumption | exact Ext.refl _ | refine Ext.alloc ?_ _ | refine Ext.drew ?_ | refine Ext.setB ?_ (by first | omega | (simp only [size_alloc, size_setB, size_drew]; omega)) _ | exact Ext.trans (by assumption) (by assumption) | refine Ext.trans ?_ (by assumption))), congrArg (Value.int .u8) (by unfold yverd; rw [if_neg hc1, if_neg hc2, if_neg hc3, if_neg hc4, if_neg hc5, if_neg hc6, if_neg hc7, if_neg hc8, if_neg hc9, if_neg hc10, if_neg hc11, if_neg hc12]; rfl)⟩
                    · have hb34p := hb34.h; try simp only [al_ete, al_dfn, Bool.not_eq_true', Bool.not_eq_false', al_ne, Bool.not_not, al_nn] at hb34p
                      have hc7 : ¬ (t.create = true ∧ 512 < t.db.length) := fun h9 => by rw [hb34p] at h9; cases h9.1
                      refine WO_guardF rfl rfl hb34.h ?_
                      refine WO_guardF rfl rfl hb34.h ?_
                      refine WO_guardF rfl rfl hb34.h ?_
                      refine WO_guardF rfl rfl hb34.h ?_
                      refine WO_p (PS_pickF rfl hb34.h rfl) ?_
                      refine WO_p (PS_assign_bool rfl) ?_
                      refine WO_nil ?_
                      refine thn_normal ?_
                      refine W_condF rfl rfl ?_
                      refine W_seq ?_
                      refine W_region rfl ?_
                      refine WO_p (PS_move_slice rfl) ?_
                      refine WO_loadA _ Hvac.isAgg35 Hvac.sizeOf35 rfl (Hb.h (by repeat (first | assumption | exact Hb.newY _ _ | refine Hb.alloc ?_ | refine Hb.drew ?_ | refine Hb.ext (by assumption) ?_ | exact Hb.setSameL (by first | omega | (simp only [size_alloc, size_setB, size_drew]; omega)) | exact Hb.setSame (by assumption) | refine Hb.set (by first | omega | (simp only [size_alloc, size_setB, size_drew]; omega)) ?_ ))) (by first | omega | assumption | rfl | decide | exact Nat.le_refl _ | (simp only [size_ic, Value.cells]; omega) | (simp [encWs]; done) | (simp; omega) | simp | exact encYA_sz (by assumption) | exact encYT_sz (by assumption) | exact encYM_sz (by assumption)) (Xt.h (by first | assumption | exact Xt.whole rfl rfl | exact Xt.whole rfl (by assumption) | exact Xt.whole rfl (by simp only [size_ic, Value.cells]; omega) | exact ⟨rfl⟩)) ?_
                      refine WO_call Hvac.call21 (by rfl) (Ret.mono (yIntrinsic_spec _ (OmB.ext hO (by repeat (first | assumption | exact Ext.refl _ | refine Ext.alloc ?_ _ | refine Ext.drew ?_ | refine Ext.setB ?_ (by first | omega | (simp only [size_alloc, size_setB, size_drew]; omega)) _ | exact Ext.trans (by assumption) (by assumption) | refine Ext.trans ?_ (by assumption)))) t (htx.ext (by repeat (first | assumption | exact Ext.refl _ | refine Ext.alloc ?_ _ | refine Ext.drew ?_ | refine Ext.setB ?_ (by first | omega | (simp only [size_alloc, size_setB, size_drew]; omega)) _ | exact Ext.trans (by assumption) (by assumption) | refine Ext.trans ?_ (by assumption)))) hd hl) ?_)
                      rintro _ w21_55 ⟨hE21_55, s21_55, rfl, hN21_55⟩
                      have hz21_55 := hE21_55.1
                      try simp only [size_alloc, size_setB, size_drew] at hz21_55
                      refine WO_call Hvac.call76 (by rfl) (Ret.mono (nCmp_spec (by first | exact NN.nil _ | assumption | exact NN.ext (by assumption) (by repeat (first | assumption | exact Ext.refl _ | refine Ext.alloc ?_ _ | refine Ext.drew ?_ | refine Ext.setB ?_ (by first | omega | (simp only [size_alloc, size_setB, size_drew]; omega)) _ | exact Ext.trans (by assumption) (by assumption) | refine Ext.trans ?_ (by assumption)))) (by first | exact NN.nil _ | assumption | exact NN.ext (by assumption) (by repeat (first | assumption | exact Ext.refl _ | refine Ext.alloc ?_ _ | refine Ext.drew ?_ | refine Ext.setB ?_ (by first | omega | (simp only [size_alloc, size_setB, size_drew]; omega)) _ | exact Ext.trans (by assumption) (by assumption) | refine Ext.trans ?_ (by assumption)))) (by first | assumption | omega | (rw [sz_zero]; omega)) (by first | assumption | omega | (rw [sz_zero]; omega))) ?_)
                      rintro _ w76_56 ⟨hE76_56, rfl⟩
                      have hz76_56 := hE76_56.1
                      try simp only [size_alloc, size_setB, size_drew] at hz76_56
                      refine WO_p (PS_lss rfl rfl) ?_
                      refine WO_p (PS_assign_bool rfl) ?_
                      refine WO_nil ?_
                      refine thn_normal ?_
                      refine W_if rfl (fun hb59 => ?_) (fun hb59 => ?_)
                      · have hb59p := hb59.h; try simp only [al_ete, al_dfn, Bool.not_eq_true', Bool.not_eq_false', al_ne, Bool.not_not, al_nn] at hb59p
                        have hc8 : t.gas.toNat < yintr t := by simpa [cmpI_lt2] using hb59p
                        refine W_seq ?_
                        refine W_region rfl ?_
                        refine WO_p (PS_assign_int rfl) ?_
                        refine WO_nil ?_
                        refine thn_normal ?_
                        refine W_ret ?_
                        refine inBlk_ret ?_
                        refine thn_ret ?_
                        refine bodyQ_ret1 Hvac.results16 rfl (.int _ _) rfl ?_
                        exact ⟨(by repeat (first | assumption | exact Ext.refl _ | refine Ext.alloc ?_ _ | refine Ext.drew ?_ | refine Ext.setB ?_ (by first | omega | (simp only [size_alloc, size_setB, size_drew]; omega)) _ | exact Ext.trans (by assumption) (by assumption) | refine Ext.trans ?_ (by assumption))), congrArg (Value.int .u8) (by unfold yverd; rw [if_neg hc1, if_neg hc2, if_neg hc3, if_neg hc4, if_neg hc5, if_neg hc6, if_neg hc7, if_pos hc8]; rfl)⟩
                      · have hb59p := hb59.h; try simp only [al_ete, al_dfn, Bool.not_eq_true', Bool.not_eq_false', al_ne, Bool.not_not, al_nn] at hb59p
                        have hc8 : ¬ (t.gas.toNat < yintr t) := by simpa [cmpI_lt2] using hb59p
                        refine W_seq ?_
                        refine W_region rfl ?_
                        refine WO_p (PS_move_slice rfl) ?_
                        refine WO_p (PS_move_ptr rfl) ?_
                        refine WO_p (PS_nilCheck rfl) ?_
                        refine WO_p (PS_fieldAddr 59 Hvac.runUnderlying99 rfl Hvac.sizeOf31 rfl rfl) ?_
                        refine WO_p (PS_fieldAddr 22 Hvac.runUnderlying31 rfl Hvac.sizeOf26 rfl rfl) ?_
                        refine WO_load (.int _ _) Hvac.isAgg26 rfl (Hb.h (by repeat (first | assumption | exact Hb.newY _ _ | refine Hb.alloc ?_ | refine Hb.drew ?_ | refine Hb.ext (by assumption) ?_ | exact Hb.setSameL (by first | omega | (simp only [size_alloc, size_setB, size_drew]; omega)) | exact Hb.setSame (by assumption) | refine Hb.set (by first | omega | (simp only [size_alloc, size_setB, size_drew]; omega)) ?_ ))) (Ce.h (by first | assumption | exact ⟨rfl⟩)) ?_
                        refine WO_call Hvac.call19 (by rfl) (Ret.mono (nNum_spec (OmB.ext hO (by repeat (first | assumption | exact Ext.refl _ | refine Ext.alloc ?_ _ | refine Ext.drew ?_ | refine Ext.setB ?_ (by first | omega | (simp only [size_alloc, size_setB, size_drew]; omega)) _ | exact Ext.trans (by assumption) (by assumption) | refine Ext.trans ?_ (by assumption)))) ⟨by omega, by omega⟩) ?_)
                        rintro _ w19_59 ⟨hE19_59, s19_59, rfl, hN19_59, hs19_59⟩
                        have hz19_59 := hE19_59.1
                        try simp only [size_alloc, size_setB, size_drew] at hz19_59
                        try simp only [Int.toNat_natCast, toNat_lit] at hN19_59 hs19_59
                        refine WO_call Hvac.call76 (by rfl) (Ret.mono (nCmp_spec (by first | exact NN.nil _ | assumption | exact NN.ext (by assumption) (by repeat (first | assumption | exact Ext.refl _ | refine Ext.alloc ?_ _ | refine Ext.drew ?_ | refine Ext.setB ?_ (by first | omega | (simp only [size_alloc, size_setB, size_drew]; omega)) _ | exact Ext.trans (by assumption) (by assumption) | refine Ext.trans ?_ (by assumption)))) (by first | exact NN.nil _ | assumption | exact NN.ext (by assumption) (by repeat (first | assumption | exact Ext.refl _ | refine Ext.alloc ?_ _ | refine Ext.drew ?_ | refine Ext.setB ?_ (by first | omega | (simp only [size_alloc, size_setB, size_drew]; omega)) _ | exact Ext.trans (by assumption) (by assumption) | refine Ext.trans ?_ (by assumption)))) (by first | assumption | omega | (rw [sz_zero]; omega)) (by first | assumption | omega | (rw [sz_zero]; omega))) ?_)
                        rintro _ w76_60 ⟨hE76_60, rfl⟩
                        have hz76_60 := hE76_60.1
                        try simp only [size_alloc, size_setB, size_drew] at hz76_60
                        refine WO_p (PS_gtr rfl rfl) ?_
                        refine WO_p (PS_assign_bool rfl) ?_
                        refine WO_nil ?_
                        refine thn_normal ?_
                        refine W_if rfl (fun hb63 => ?_) (fun hb63 => ?_)
                        · have hb63p := hb63.h; try simp only [al_ete, al_dfn, Bool.not_eq_true', Bool.not_eq_false', al_ne, Bool.not_not, al_nn] at hb63p
                          have hc9 : y.env.glim.toNat < t.gas.toNat := by simpa [cmpI_gt3, ← hEe] using hb63p
                          refine W_seq ?_
                          refine W_region rfl ?_
                          refine WO_p (PS_assign_int rfl) ?_
                          refine WO_nil ?_
                          refine thn_normal ?_
                          refine W_ret ?_
                          refine inBlk_ret ?_
                          refine thn_ret ?_
                          refine bodyQ_ret1 Hvac.results16 rfl (.int _ _) rfl ?_
                          exact ⟨(by repeat (first | assumption | exact Ext.refl _ | refine Ext.alloc ?_ _ | refine Ext.drew ?_ | refine Ext.setB ?_ (by first | omega | (simp only [size_alloc, size_setB, size_drew]; omega)) _ | exact Ext.trans (by assumption) (by assumption) | refine Ext.trans ?_ (by assumption))), congrArg (Value.int .u8) (by unfold yverd; rw [if_neg hc1, if_neg hc2, if_neg hc3, if_neg hc4, if_neg hc5, if_neg hc6, if_neg hc7, if_neg hc8, if_pos hc9]; rfl)⟩
                        · have hb63p := hb63.h; try simp only [al_ete, al_dfn, Bool.not_eq_true', Bool.not_eq_false', al_ne, Bool.not_not, al_nn] at hb63p
                          have hc9 : ¬ (y.env.glim.toNat < t.gas.toNat) := by simpa [cmpI_gt3, ← hEe] using hb63p
                          refine W_seq ?_
                          refine W_region rfl ?_
                          refine WO_p (PS_fieldAddr 21 Hvac.runUnderlying104 rfl Hvac.sizeOf92 rfl rfl) ?_
                          refine WO_load (.slice _ _ _) Hvac.isAgg92 rfl (Hb.h (by repeat (first | assumption | exact Hb.newY _ _ | refine Hb.alloc ?_ | refine Hb.drew ?_ | refine Hb.ext (by assumption) ?_ | exact Hb.setSameL (by first | omega | (simp only [size_alloc, size_setB, size_drew]; omega)) | exact Hb.setSame (by assumption) | refine Hb.set (by first | omega | (simp only [size_alloc, size_setB, size_drew]; omega)) ?_ ))) (Ce.h (by first | assumption | exact ⟨rfl⟩)) ?_
                          refine WO_p (PS_move_slice rfl) ?_
                          refine WO_call Hvac.call76 (by rfl) (Ret.mono (nCmp_spec (by first | exact NN.nil _ | assumption | exact NN.ext (by assumption) (by repeat (first | assumption | exact Ext.refl _ | refine Ext.alloc ?_ _ | refine Ext.drew ?_ | refine Ext.setB ?_ (by first | omega | (simp only [size_alloc, size_setB, size_drew]; omega)) _ | exact Ext.trans (by assumption) (by assumption) | refine Ext.trans ?_ (by assumption)))) (by first | exact NN.nil _ | assumption | exact NN.ext (by assumption) (by repeat (first | assumption | exact Ext.refl _ | refine Ext.alloc ?_ _ | refine Ext.drew ?_ | refine Ext.setB ?_ (by first | omega | (simp only [size_alloc, size_setB, size_drew]; omega)) _ | exact Ext.trans (by assumption) (by assumption) | refine Ext.trans ?_ (by assumption)))) (by first | assumption | omega | (rw [sz_zero]; omega)) (by first | assumption | omega | (rw [sz_zero]; omega))) ?_)
                          rintro _ w76_63 ⟨hE76_63, rfl⟩
                          have hz76_63 := hE76_63.1
                          try simp only [size_alloc, size_setB, size_drew] at hz76_63
                          refine WO_p (PS_lss rfl rfl) ?_
                          refine WO_p (PS_assign_bool rfl) ?_
                          refine WO_nil ?_
                          refine thn_normal ?_
                          refine W_if rfl (fun hb66 => ?_) (fun hb66 => ?_)
                          · have hb66p := hb66.h; try simp only [al_ete, al_dfn, Bool.not_eq_true', Bool.not_eq_false', al_ne, Bool.not_not, al_nn] at hb66p
                            have hc10 : (yacct y.now.accts t.fr).bal < t.gas.toNat * bvY (feeB t).1 + bvY t.value := by simpa [cmpI_lt2] using hb66p
                            refine W_seq ?_
                            refine W_region rfl ?_
                            refine WO_p (PS_assign_int rfl) ?_
                            refine WO_nil ?_
                            refine thn_normal ?_
                            refine W_ret ?_
                            refine inBlk_ret ?_
                            refine thn_ret ?_
                            refine bodyQ_ret1 Hvac.results16 rfl (.int _ _) rfl ?_
                            exact ⟨(by repeat (first | assumption | exact Ext.refl _ | refine Ext.alloc ?_ _ | refine Ext.drew ?_ | refine Ext.setB ?_ (by first | omega | (simp only [size_alloc, size_setB, size_drew]; omega)) _ | exact Ext.trans (by assumption) (by assumption) | refine Ext.trans ?_ (by assumption))), congrArg (Value.int .u8) (by unfold yverd; rw [if_neg hc1, if_neg hc2, if_neg hc3, if_neg hc4, if_neg hc5, if_neg hc6, if_neg hc7, if_neg hc8, if_neg hc9, if_pos hc10]; rfl)⟩
                          · have hb66p := hb66.h; try simp only [al_ete, al_dfn, Bool.not_eq_true', Bool.not_eq_false', al_ne, Bool.not_not, al_nn] at hb66p
                            have hc10 : ¬ ((yacct y.now.accts t.fr).bal < t.gas.toNat * bvY (feeB t).1 + bvY t.value) := by simpa [cmpI_lt2] using hb66p
                            refine W_seq ?_
                            refine W_region rfl ?_
                            refine WO_p (PS_slA Hvac.runUnderlying28 Hvac.sizeOf5 rfl (by omega)) ?_
                            refine WO_call Hvac.call29 (by rfl) (Ret.mono (nBE_spec (OmB.ext hO (by repeat (first | assumption | exact Ext.refl _ | refine Ext.alloc ?_ _ | refine Ext.drew ?_ | refine Ext.setB ?_ (by first | omega | (simp only [size_alloc, size_setB, size_drew]; omega)) _ | exact Ext.trans (by assumption) (by assumption) | refine Ext.trans ?_ (by assumption)))) (AB.all (Hb.mk (Hb.h (by repeat (first | assumption | exact Hb.newY _ _ | refine Hb.alloc ?_ | refine Hb.drew ?_ | refine Hb.ext (by assumption) ?_ | exact Hb.setSameL (by first | omega | (simp only [size_alloc, size_setB, size_drew]; omega)) | exact Hb.setSame (by assumption) | refine Hb.set (by first | omega | (simp only [size_alloc, size_setB, size_drew]; omega)) ?_ )))) hf2.2 hl2) (by omega)) ?_)
                            rintro _ w29_66 ⟨hE29_66, s29_66, rfl, hN29_66⟩
                            have hz29_66 := hE29_66.1
                            try simp only [size_alloc, size_setB, size_drew] at hz29_66
                            refine WO_p (PS_move_slice rfl) ?_
                            refine WO_call Hvac.call76 (by rfl) (Ret.mono (nCmp_spec (by first | exact NN.nil _ | assumption | exact NN.ext (by assumption) (by repeat (first | assumption | exact Ext.refl _ | refine Ext.alloc ?_ _ | refine Ext.drew ?_ | refine Ext.setB ?_ (by first | omega | (simp only [size_alloc, size_setB, size_drew]; omega)) _ | exact Ext.trans (by assumption) (by assumption) | refine Ext.trans ?_ (by assumption)))) (by first | exact NN.nil _ | assumption | exact NN.ext (by assumption) (by repeat (first | assumption | exact Ext.refl _ | refine Ext.alloc ?_ _ | refine Ext.drew ?_ | refine Ext.setB ?_ (by first | omega | (simp only [size_alloc, size_setB, size_drew]; omega)) _ | exact Ext.trans (by assumption) (by assumption) | refine Ext.trans ?_ (by assumption)))) (by first | assumption | omega | (rw [sz_zero]; omega)) (by first | assumption | omega | (rw [sz_zero]; omega))) ?_)
                            rintro _ w76_67 ⟨hE76_67, rfl⟩
                            have hz76_67 := hE76_67.1
                            try simp only [size_alloc, size_setB, size_drew] at hz76_67
                            refine WO_p (PS_gtr rfl rfl) ?_
                            refine WO_p (PS_assign_bool rfl) ?_
                            refine WO_nil ?_
                            refine thn_normal ?_
                            refine W_if rfl (fun hb70 => ?_) (fun hb70 => ?_)
                            · have hb70p := hb70.h; try simp only [al_ete, al_dfn, Bool.not_eq_true', Bool.not_eq_false', al_ne, Bool.not_not, al_nn] at hb70p
                              have hc11 : bvY (feeB t).1 < bvY (feeB t).2 := by simpa [cmpI_gt3] using hb70p
                              refine W_seq ?_
                              refine W_region rfl ?_
                              refine WO_p (PS_assign_int rfl) ?_
                              refine WO_nil ?_
                              refine thn_normal ?_
                              refine W_ret ?_
                              refine inBlk_ret ?_
                              refine thn_ret ?_
                              refine bodyQ_ret1 Hvac.results16 rfl (.int _ _) rfl ?_
                              exact ⟨(by repeat (first | assumption | exact Ext.refl _ | refine Ext.alloc ?_ _ | refine Ext.drew ?_ | refine Ext.setB ?_ (by first | omega | (simp only [size_alloc, size_setB, size_drew]; omega)) _ | exact Ext.trans (by assumption) (by assumption) | refine Ext.trans ?_ (by assumption))), congrArg (Value.int .u8) (by unfold yverd; rw [if_neg hc1, if_neg hc2, if_neg hc3, if_neg hc4, if_neg hc5, if_neg hc6, if_neg hc7, if_neg hc8, if_neg hc9, if_neg hc10, if_pos hc11]; rfl)⟩
                            · have hb70p := hb70.h; try simp only [al_ete, al_dfn, Bool.not_eq_true', Bool.not_eq_false', al_ne, Bool.not_not, al_nn] at hb70p
                              have hc11 : ¬ (bvY (feeB t).1 < bvY (feeB t).2) := by simpa [cmpI_gt3] using hb70p
                              refine W_seq ?_
                              refine W_region rfl ?_
                              refine WO_p (PS_move_slice rfl) ?_
                              refine WO_p (PS_move_ptr rfl) ?_
                              refine WO_call Hvac.call78 (by rfl) (Ret.mono (yBaseFee_spec _ (OmB.ext hO (by repeat (first | assumption | exact Ext.refl _ | refine Ext.alloc ?_ _ | refine Ext.drew ?_ | refine Ext.setB ?_ (by first | omega | (simp only [size_alloc, size_setB, size_drew]; omega)) _ | exact Ext.trans (by assumption) (by assumption) | refine Ext.trans ?_ (by assumption)))) _ _ _ (by first | assumption | exact YSS.ext (by assumption) (by repeat (first | assumption | exact Ext.refl _ | refine Ext.alloc ?_ _ | refine Ext.drew ?_ | refine Ext.setB ?_ (by first | omega | (simp only [size_alloc, size_setB, size_drew]; omega)) _ | exact Ext.trans (by assumption) (by assumption) | refine Ext.trans ?_ (by assumption))))) ?_)
                              rintro _ w78_70 ⟨hE78_70, s78_70, rfl, hN78_70⟩
                              have hz78_70 := hE78_70.1
                              try simp only [size_alloc, size_setB, size_drew] at hz78_70
                              refine WO_call Hvac.call76 (by rfl) (Ret.mono (nCmp_spec (by first | exact NN.nil _ | assumption | exact NN.ext (by assumption) (by repeat (first | assumption | exact Ext.refl _ | refine Ext.alloc ?_ _ | refine Ext.drew ?_ | refine Ext.setB ?_ (by first | omega | (simp only [size_alloc, size_setB, size_drew]; omega)) _ | exact Ext.trans (by assumption) (by assumption) | refine Ext.trans ?_ (by assumption)))) (by first | exact NN.nil _ | assumption | exact NN.ext (by assumption) (by repeat (first | assumption | exact Ext.refl _ | refine Ext.alloc ?_ _ | refine Ext.drew ?_ | refine Ext.setB ?_ (by first | omega | (simp only [size_alloc, size_setB, size_drew]; omega)) _ | exact Ext.trans (by assumption) (by assumption) | refine Ext.trans ?_ (by assumption)))) (by first | assumption | omega | (rw [sz_zero]; omega)) (by first | assumption | omega | (rw [sz_zero]; omega))) ?_)
                              rintro _ w76_71 ⟨hE76_71, rfl⟩
                              have hz76_71 := hE76_71.1
                              try simp only [size_alloc, size_setB, size_drew] at hz76_71
                              refine WO_p (PS_lss rfl rfl) ?_
                              refine WO_p (PS_assign_bool rfl) ?_
                              refine WO_nil ?_
                              refine thn_normal ?_
                              refine W_if rfl (fun hb74 => ?_) (fun hb74 => ?_)
                              · have hb74p := hb74.h; try simp only [al_ete, al_dfn, Bool.not_eq_true', Bool.not_eq_false', al_ne, Bool.not_not, al_nn] at hb74p
                                have hc12 : bvY (feeB t).1 < bvY y.env.bfee := by simpa [cmpI_lt2] using hb74p
                                refine W_seq ?_
                                refine W_region rfl ?_
                                refine WO_p (PS_assign_int rfl) ?_
                                refine WO_nil ?_
                                refine thn_normal ?_
                                refine W_ret ?_
                                refine inBlk_ret ?_
                                refine thn_ret ?_
                                refine bodyQ_ret1 Hvac.results16 rfl (.int _ _) rfl ?_
                                exact ⟨(by repeat (first | assumption | exact Ext.refl _ | refine Ext.alloc ?_ _ | refine Ext.drew ?_ | refine Ext.setB ?_ (by first | omega | (simp only [size_alloc, size_setB, size_drew]; omega)) _ | exact Ext.trans (by assumption) (by assumption) | refine Ext.trans ?_ (by assumption))), congrArg (Value.int .u8) (by unfold yverd; rw [if_neg hc1, if_neg hc2, if_neg hc3, if_neg hc4, if_neg hc5, if_neg hc6, if_neg hc7, if_neg hc8, if_neg hc9, if_neg hc10, if_neg hc11, if_pos hc12]; rfl)⟩
                              · have hb74p := hb74.h; try simp only [al_ete, al_dfn, Bool.not_eq_true', Bool.not_eq_false', al_ne, Bool.not_not, al_nn] at hb74p
                                have hc12 : ¬ (bvY (feeB t).1 < bvY y.env.bfee) := by simpa [cmpI_lt2] using hb74p
                                refine W_skip ?_
                                refine inBlk_normal ?_
                                refine thn_normal ?_
                                refine W_seq ?_
                                refine W_region rfl ?_
                                refine WO_p (PS_assign_int rfl) ?_
                                refine WO_nil ?_
                                refine thn_normal ?_
                                refine W_ret ?_
                                refine bodyQ_ret1 Hvac.results16 rfl (.int _ _) rfl ?_
                                exact ⟨(by repeat (first | assumption | exact Ext.refl _ | refine Ext.alloc ?_ _ | refine Ext.drew ?_ | refine Ext.setB ?_ (by first | omega | (simp only [size_alloc, size_setB, size_drew]; omega)) _ | exact Ext.trans (by assumption) (by assumption) | refine Ext.trans ?_ (by assumption))), congrArg (Value.int .u8) (by unfold yverd; rw [if_neg hc1, if_neg hc2, if_neg hc3, if_neg hc4, if_neg hc5, if_neg hc6, if_neg hc7, if_neg hc8, if_neg hc9, if_neg hc10, if_neg hc11, if_neg hc12]; rfl)⟩

end Go.Proofs.YgvacwGreat
