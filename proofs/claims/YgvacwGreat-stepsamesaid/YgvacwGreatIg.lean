import Derived.Test.YgvacwGreatIf
namespace Go.Proofs.YgvacwGreat
set_option linter.unusedSimpArgs false
set_option linter.unusedVariables false
theorem ext_keep {w0 w w' : World} {O : Nat → Prop} (he : Ext w0 w) (hk : KeepO O w w') (hs : ∀ b, O b → w0.heap.size ≤ b) : Ext w0 w' :=
  ⟨Nat.le_trans he.1 hk.sz, fun b hb => (hk.old b (Nat.lt_of_lt_of_le hb he.1) (fun hh => by have := hs b hh; omega)).trans (he.2 b hb), hk.en.1.trans he.3.1, hk.en.2.1.trans he.3.2.1, hk.en.2.2.trans he.3.2.2⟩
theorem ystart_len {l : List PA} {i : Nat} {a : PA} (h : l[i]? = some a) : (ystart (l.take i)).length + (ystartS a).length ≤ (ystart l).length := by
  have e : ystart l = ystart (l.take (i + 1)) ++ ystart (l.drop (i + 1)) := by
    unfold ystart
    rw [← List.flatMap_append, List.take_append_drop]
  rw [e, ystart_snoc h]
  simp only [List.length_append]
  omega
theorem yad_by (n : Int) (h : 0 ≤ n ∧ n ≤ 255) : By (yad n) 20 := ⟨rfl, fun x hx => by
  simp only [yad, List.mem_append, List.mem_replicate, List.mem_singleton] at hx
  rcases hx with ⟨_, rfl⟩ | rfl
  · omega
  · exact h⟩
theorem yaxs_f : ∀ (l : List Ax) (y : PSt), (yaxs y l).now.accts = y.now.accts ∧ (yaxs y l).txGas = y.txGas
  | [], y => ⟨rfl, rfl⟩
  | a :: r, y => yaxs_f r _
theorem InRow.ab {w : World} {s : SV} {L : List Int} (h : InRow encB 1 w s L) (hb : ∀ x ∈ L, 0 ≤ x ∧ x ≤ 255) (hc : s.2.1 ≤ s.2.2) : AB w (s.1, s.2.1, s.2.2) L :=
  ⟨h.len.symm, hc, hb, fun h0 => by
    have hl := h.len
    dsimp only at h0
    have h0' : 0 < L.length := by omega
    obtain ⟨bd, od, rd, Td, fzd, hpd, hbd, hod, hxd⟩ := (h.sc h0').2.resolve_left (fun h => by omega)
    refine ⟨bd, od, rd, Td, fzd, hpd, hbd, ?_, ?_⟩
    · simpa using hod
    · simpa using hxd⟩
theorem R2.len {α β : Type} {R : α → β → Prop} {L : List α} {l : List β} (h : R2 R L l) : L.length = l.length := h.1

set_option maxRecDepth 10000 in
set_option maxHeartbeats 4000000 in
theorem yBegin_spec [Om] (w : World) (hO : OmB w) (ks : List Int → List Int) (hK : KSum ks) (Y : Nat → Prop) (C : Nat) (x : YSt) (y : PSt) (xs : List YFr) (fs : List PF) (N : Nat) (hX : YX Y w C x y xs fs) (hB : PSB N y) (hN : N ≤ 99999600) (hYB : YB y) (t : Tx) (w0 : World) (he0 : Ext w0 w) (htx0 : TxOK w0 t) (hlow : w0.heap.size ≤ C) (hdc : t.data.2.1 ≤ t.data.2.2) (hap : y.applied ≤ 4) (hst : (ystart y.now.accts).length ≤ N) : Ret Hvac.prog 6 #[.pointer (some ⟨C, 0, none⟩), .agg (encTx t).toArray] w fun u w' => (yverd y t ≠ 0 → u = .int .u8 (yverd y t) ∧ Ext w w') ∧ (yverd y t = 0 → u = .int .u8 0 ∧ YRet Y w w' C (ybegin ks y t).1 (ybegin ks y t).2) := by
  have htx := htx0.ext he0
  have hSS := hX.ss
  have hS := hX.ss
  have hone := one_encTx t
  have hszt : (encTx t).toArray.size = 174 := by have := encTx_len htx; simpa using this
  obtain ⟨hf1, hf2⟩ := feeB_by htx
  have hl1 := hf1.1
  have hl2 := hf2.1
  have hzf1 : sz (bvY (feeB t).1) ≤ 32 := by have := sz_le (bv_lt hf1.2); rwa [hl1] at this
  have hzf2 : sz (bvY (feeB t).2) ≤ 32 := by have := sz_le (bv_lt hf2.2); rwa [hl2] at this
  have hat := txAt htx
  have hSb := hS.blk
  have hSl := hSb.lt
  have hol : x.origin.length = 20 := by rw [hS.rel.origin]; exact hS.rel.ob.1
  have hml : x.made.length = 20 := by rw [hS.rel.made]; exact hS.rel.mb.1
  have hEB : EvB x.env := by rw [hS.rel.env]; exact hS.rel.evb
  have hEC := encYS_env hol hml hEB
  have hszS := encYS_sz hol hml hEB
  have hEe := hS.rel.env
  have hk1 := hEC.num
  have hk2 := hEC.timeY
  have hk3 := hEC.glim
  have hk7 := hEC.hash
  have hnb := hEB.num
  have htb := hEB.timeY
  have hgb := hEB.glim
  have hABc : AB w (some ⟨C, 0 + 59 + 0, none⟩, 20, 20) x.env.cb := AB.xt hSb hEC.cb (by omega) hEB.cb.1 hEB.cb.2
  have hABr : AB w (some ⟨C, 0 + 59 + 23, none⟩, 32, 32) x.env.rand := AB.xt hSb hEC.rand (by omega) hEB.rand.1 hEB.rand.2
  have hABi : AB w (some ⟨C, 0 + 59 + 55, none⟩, 32, 32) x.env.cid := AB.xt hSb hEC.cid (by omega) hEB.cid.1 hEB.cid.2
  have hABb : AB w (some ⟨C, 0 + 59 + 87, none⟩, 32, 32) x.env.bfee := AB.xt hSb hEC.bfee (by omega) hEB.bfee.1 hEB.bfee.2
  have hSo := hS.om
  have hAl := htx.fr.1
  have hTl := htx.to_.1
  have hab := hat.fr
  have htb := hat.to_
  have hcr := hat.cr
  have hag := hat.ga
  have hda := hat.da
  have hdal := htx.da.len
  have hgab := htx.ga
  have hfrb := htx.fr
  have hTOb : By (ybTo ks y t) 20 := by unfold ybTo; split; exact ycr1_by hK _ _; exact htx.to_
  have hTOl := hTOb.1
  have hcbl := hS.rel.evb.cb.1
  refine Ret_of_W Hvac.func6 rfl rfl ?_
  refine W_seq ?_
  refine W_region rfl ?_
  refine WO_boxG (.agg _) rfl ?_
  intro b3 v3 hg3 hE3 hH3 hl3
  try simp only [size_alloc, size_setB, size_drew] at hg3
  have hzz3 := hE3.1
  try simp only [size_alloc, size_setB, size_drew] at hzz3
  refine WO_p (PS_assign_int rfl) ?_
  refine WO_nil ?_
  refine thn_normal ?_
  refine W_seq ?_
  refine W_region rfl ?_
  refine WO_p (PS_move_ptr rfl) ?_
  refine WO_p (PS_nilCheck rfl) ?_
  refine WO_p (PS_fieldAddr 0 Hvac.runUnderlying101 rfl Hvac.sizeOf99 rfl rfl) ?_
  refine WO_p (PS_assign_ptr rfl) ?_
  refine WO_nil ?_
  refine thn_normal ?_
  refine W_seq ?_
  refine W_seq ?_
  refine W_region rfl ?_
  refine WO_p (PS_move_ptr rfl) ?_
  refine WO_loadA _ Hvac.isAgg35 Hvac.sizeOf35 rfl (Hb.h (by repeat (first | assumption | exact Hb.newY _ _ | refine Hb.alloc ?_ | refine Hb.drew ?_ | refine Hb.ext (by assumption) ?_ | exact Hb.setSameL (by first | omega | (simp only [size_alloc, size_setB, size_drew]; omega)) | exact Hb.setSame (by assumption) | refine Hb.set (by first | omega | (simp only [size_alloc, size_setB, size_drew]; omega)) ?_ ))) (by first | omega | assumption | rfl | decide | exact Nat.le_refl _ | (simp only [size_ic, Value.cells]; omega) | (simp [encWs]; done) | (simp; omega) | simp | exact encYA_sz (by assumption) | exact encYT_sz (by assumption) | exact encYM_sz (by assumption)) (Xt.h (by first | assumption | exact Xt.whole rfl rfl | exact Xt.whole rfl (by assumption) | exact Xt.whole rfl (by simp only [size_ic, Value.cells]; omega) | exact ⟨rfl⟩)) ?_
  refine WO_call Hvac.call16 (by rfl) (Ret.mono (yVerdict_spec _ (OmB.ext hO (by repeat (first | assumption | exact Ext.refl _ | refine Ext.alloc ?_ _ | refine Ext.drew ?_ | refine Ext.setB ?_ (by first | omega | (simp only [size_alloc, size_setB, size_drew]; omega)) _ | exact Ext.trans (by assumption) (by assumption) | refine Ext.trans ?_ (by assumption)))) C x y N (YSS.ext hSS (by repeat (first | assumption | exact Ext.refl _ | refine Ext.alloc ?_ _ | refine Ext.drew ?_ | refine Ext.setB ?_ (by first | omega | (simp only [size_alloc, size_setB, size_drew]; omega)) _ | exact Ext.trans (by assumption) (by assumption) | refine Ext.trans ?_ (by assumption)))) hB (by omega) t (htx.ext (by repeat (first | assumption | exact Ext.refl _ | refine Ext.alloc ?_ _ | refine Ext.drew ?_ | refine Ext.setB ?_ (by first | omega | (simp only [size_alloc, size_setB, size_drew]; omega)) _ | exact Ext.trans (by assumption) (by assumption) | refine Ext.trans ?_ (by assumption)))) (by omega)) ?_)
  rintro _ w2 ⟨hE2, rfl⟩
  have hz2 := hE2.1
  try simp only [size_alloc, size_setB, size_drew] at hz2
  refine WO_p (PS_assign_int rfl) ?_
  refine WO_nil ?_
  refine thn_normal ?_
  refine W_seq ?_
  refine W_region rfl ?_
  refine WO_p (PS_move_int rfl) ?_
  refine WO_p (PS_neq rfl rfl) ?_
  refine WO_nil ?_
  refine thn_normal ?_
  refine W_if rfl (fun hb3 => ?_) (fun hb3 => ?_)
  · have hb3p := hb3.h; try simp only [al_ete, al_dfn, Bool.not_eq_true', Bool.not_eq_false', al_ne, Bool.not_not, al_nn] at hb3p
    have hv : yverd y t ≠ 0 := by omega
    refine W_seq ?_
    refine W_region rfl ?_
    refine WO_p (PS_move_int rfl) ?_
    refine WO_p (PS_assign_int rfl) ?_
    refine WO_nil ?_
    refine thn_normal ?_
    refine W_ret ?_
    refine thn_ret ?_
    refine bodyQ_ret1 Hvac.results6 rfl (.int _ _) rfl ?_
    exact ⟨fun _ => ⟨rfl, (by repeat (first | assumption | exact Ext.refl _ | refine Ext.alloc ?_ _ | refine Ext.drew ?_ | refine Ext.setB ?_ (by first | omega | (simp only [size_alloc, size_setB, size_drew]; omega)) _ | exact Ext.trans (by assumption) (by assumption) | refine Ext.trans ?_ (by assumption)))⟩, fun h9 => absurd h9 hv⟩
  · have hb3p := hb3.h; try simp only [al_ete, al_dfn, Bool.not_eq_true', Bool.not_eq_false', al_ne, Bool.not_not, al_nn] at hb3p
    have hv : yverd y t = 0 := by omega
    have hV := ver0 hv
    have hzn9 : sz (yacct y.now.accts t.fr).nonce ≤ 8 := by rw [← hV.no]; exact sz64 (by have := htx.no; omega)
    refine W_skip ?_
    refine thn_normal ?_
    refine W_seqJ (fun ρ w' => ∃ (x3 : YAc) (b7 : Nat), Fr [(3, .pointer (some ⟨b3, 0, none⟩)), (5, .pointer (some ⟨C, 0, none⟩)), (7, .pointer (some ⟨b7, 0, none⟩))] ρ ∧ Ext w w' ∧ Hb w' b3 (.cells (encTx t).toArray 35 (0, 0)) ∧ w.heap.size ≤ b7 ∧ b3 ≠ b7 ∧ Hb w' b7 (.cells (encYA x3).toArray 104 (0, 0)) ∧ x3.addr = t.fr ∧ AcR w' x3 (yacct y.now.accts t.fr)) ?_ ?_
    · skip
      refine W_drawF [false, false, false, false, false, false, true, false] [6] [0, 1, 2, 3, 4, 5, 7] hmix (by kernel_rfl) rfl rfl rfl ?_
      refine F_q (i := 0) rfl (by kernel_rfl) ?_
      refine WH_p (PS_move_ptr rfl) rfl ?_
      refine WH_nil ?_
      refine F_q (i := 1) rfl (by kernel_rfl) ?_
      refine WH_p (PS_nilCheck rfl) rfl ?_
      refine WH_nil ?_
      refine F_q (i := 2) rfl (by kernel_rfl) ?_
      refine WH_p (PS_fieldAddr 0 Hvac.runUnderlying99 rfl Hvac.sizeOf95 rfl rfl) rfl ?_
      refine WH_nil ?_
      refine F_q (i := 3) rfl (by kernel_rfl) ?_
      refine WH_p (PS_fieldAddr 0 Hvac.runUnderlying35 rfl Hvac.sizeOf25 rfl rfl) rfl ?_
      refine WH_nil ?_
      refine F_q (i := 4) rfl (by kernel_rfl) ?_
      refine WH_loadA _ Hvac.isAgg25 Hvac.sizeOf25 rfl (Hb.h (by repeat (first | assumption | exact Hb.newY _ _ | refine Hb.alloc ?_ | refine Hb.drew ?_ | refine Hb.ext (by assumption) ?_ | exact Hb.setSameL (by first | omega | (simp only [size_alloc, size_setB, size_drew]; omega)) | exact Hb.setSame (by assumption) | refine Hb.set (by first | omega | (simp only [size_alloc, size_setB, size_drew]; omega)) ?_ ))) (by first | omega | assumption | rfl | decide | exact Nat.le_refl _ | (simp only [size_ic, Value.cells]; omega) | (simp [encWs]; done) | (simp; omega) | simp | exact encYA_sz (by assumption) | exact encYT_sz (by assumption) | exact encYM_sz (by assumption)) (Xt.h (by first | assumption | exact Xt.whole rfl rfl | exact Xt.whole rfl (by assumption) | exact Xt.whole rfl (by simp only [size_ic, Value.cells]; omega) | exact ⟨rfl⟩)) ?_
      refine WH_nil ?_
      refine F_fork1 (i := 5) rfl rfl ?_ ?_
      · refine WH_call Hvac.call17 (by rfl) (Ret.mono (acctS (OmB.ext hO (by repeat (first | assumption | exact Ext.refl _ | refine Ext.alloc ?_ _ | refine Ext.drew ?_ | refine Ext.setB ?_ (by first | omega | (simp only [size_alloc, size_setB, size_drew]; omega)) _ | exact Ext.trans (by assumption) (by assumption) | refine Ext.trans ?_ (by assumption)))) (YSS.ext hSS (by repeat (first | assumption | exact Ext.refl _ | refine Ext.alloc ?_ _ | refine Ext.drew ?_ | refine Ext.setB ?_ (by first | omega | (simp only [size_alloc, size_setB, size_drew]; omega)) _ | exact Ext.trans (by assumption) (by assumption) | refine Ext.trans ?_ (by assumption)))) hB (by omega) htx.fr) ?_)
        rintro _ w3 ⟨hE3, x3, rfl, hxa3, hxr3⟩
        refine ⟨(fun h => by cases h), ?_⟩
        have hz3 := hE3.1
        try simp only [size_alloc, size_setB, size_drew] at hz3
        have hxl3 : x3.addr.length = 20 := by rw [hxa3]; exact htx.fr.1
        have hsz3 : (encYA x3).toArray.size = 24 := by simpa using encYA_len hxl3
        have hone3 := one_YA2 x3
        have hc13 := encYA_1 hxl3
        have hc23 := encYA_2 hxl3
        have hc33 := encYA_3 hxl3
        have hnb3 := hxr3.bal
        have hnn3 := hxr3.nonce
        have hzb3 := hxr3.bz
        have hzn3 := hxr3.nz
        have hcl3 := hxr3.code.len
        have hcp3 := hxr3.code
        have hcdl3 := hB.now.cd.acct t.fr
        refine WH_nil ?_
        refine F_fork1B (i := 7) (by kernel_rfl) rfl ?_
        · refine WH_allocG Hvac.zeroValue104 ?_
          intro b7 v7 hg7 hE7 hH7 hl7
          try simp only [size_alloc, size_setB, size_drew] at hg7
          have hzz7 := hE7.1
          try simp only [size_alloc, size_setB, size_drew] at hzz7
          replace hH7 : Hb v7 b7 (.cells ((encYA (ac0 (List.replicate 20 0))).toArray) 104 (0, 0)) := hH7
          refine ⟨fun _ => (by repeat (first | assumption | exact Ext.refl _ | refine Ext.alloc ?_ _ | refine Ext.drew ?_ | refine Ext.setB ?_ (by first | omega | (simp only [size_alloc, size_setB, size_drew]; omega)) _ | exact Ext.trans (by assumption) (by assumption) | refine Ext.trans ?_ (by assumption))), ?_⟩
          refine WH_nil ?_
          refine F_q (i := 7) rfl (by kernel_rfl) ?_
          first | refine WH_storeW Hvac.sizeOf104 rfl (v := .agg _) rfl (Hb.h (by repeat (first | assumption | exact Hb.newY _ _ | refine Hb.alloc ?_ | refine Hb.drew ?_ | refine Hb.ext (by assumption) ?_ | exact Hb.setSameL (by first | omega | (simp only [size_alloc, size_setB, size_drew]; omega)) | exact Hb.setSame (by assumption) | refine Hb.set (by first | omega | (simp only [size_alloc, size_setB, size_drew]; omega)) ?_ ))) rfl (by first | omega | assumption | rfl | decide | exact Nat.le_refl _ | (simp only [size_ic, Value.cells]; omega) | (simp [encWs]; done) | (simp; omega) | simp | exact encYA_sz (by assumption) | exact encYT_sz (by assumption) | exact encYM_sz (by assumption)) (by first | omega | assumption | rfl | decide | exact Nat.le_refl _ | (simp only [size_ic, Value.cells]; omega) | (simp [encWs]; done) | (simp; omega) | simp | exact encYA_sz (by assumption) | exact encYT_sz (by assumption) | exact encYM_sz (by assumption)) (by first | exact oneCell_ic | assumption | exact one_Ws2 _ | exact one_YA2 _ | exact one_YSl2 _ | exact one_YM2 _ | exact one_YT2 _ | exact one_L2 _) (fun h => by cases h) ?_ | refine WH_store Hvac.sizeOf104 rfl (v := .agg _) rfl (Hb.h (by repeat (first | assumption | exact Hb.newY _ _ | refine Hb.alloc ?_ | refine Hb.drew ?_ | refine Hb.ext (by assumption) ?_ | exact Hb.setSameL (by first | omega | (simp only [size_alloc, size_setB, size_drew]; omega)) | exact Hb.setSame (by assumption) | refine Hb.set (by first | omega | (simp only [size_alloc, size_setB, size_drew]; omega)) ?_ ))) (by first | omega | assumption | rfl | decide | exact Nat.le_refl _ | (simp only [size_ic, Value.cells]; omega) | (simp [encWs]; done) | (simp; omega) | simp | exact encYA_sz (by assumption) | exact encYT_sz (by assumption) | exact encYM_sz (by assumption)) (by first | omega | assumption | rfl | decide | exact Nat.le_refl _ | (simp only [size_ic, Value.cells]; omega) | (simp [encWs]; done) | (simp; omega) | simp | exact encYA_sz (by assumption) | exact encYT_sz (by assumption) | exact encYM_sz (by assumption)) (by first | exact oneCell_ic | assumption | exact one_Ws2 _ | exact one_YA2 _ | exact one_YSl2 _ | exact one_YM2 _ | exact one_YT2 _ | exact one_L2 _) (fun h => by cases h) ?_
          refine WH_nil ?_
          refine F_end ?_
          refine thn_normal ?_
          exact ⟨x3, b7, ⟨rfl, rfl, rfl, trivial⟩, (by repeat (first | assumption | exact Ext.refl _ | refine Ext.alloc ?_ _ | refine Ext.drew ?_ | refine Ext.setB ?_ (by first | omega | (simp only [size_alloc, size_setB, size_drew]; omega)) _ | exact Ext.trans (by assumption) (by assumption) | refine Ext.trans ?_ (by assumption))), Hb.mk (Hb.h (by repeat (first | assumption | exact Hb.newY _ _ | refine Hb.alloc ?_ | refine Hb.drew ?_ | refine Hb.ext (by assumption) ?_ | exact Hb.setSameL (by first | omega | (simp only [size_alloc, size_setB, size_drew]; omega)) | exact Hb.setSame (by assumption) | refine Hb.set (by first | omega | (simp only [size_alloc, size_setB, size_drew]; omega)) ?_ ))), by omega, by omega, Hb.mk (Hb.h (by repeat (first | assumption | exact Hb.newY _ _ | refine Hb.alloc ?_ | refine Hb.drew ?_ | refine Hb.ext (by assumption) ?_ | exact Hb.setSameL (by first | omega | (simp only [size_alloc, size_setB, size_drew]; omega)) | exact Hb.setSame (by assumption) | refine Hb.set (by first | omega | (simp only [size_alloc, size_setB, size_drew]; omega)) ?_ ))), hxa3, (by first | assumption | (refine AcR.ext hxr3 ?_; (repeat (first | assumption | exact Ext.refl _ | refine Ext.alloc ?_ _ | refine Ext.drew ?_ | refine Ext.setB ?_ (by first | omega | (simp only [size_alloc, size_setB, size_drew]; omega)) _ | refine Ext.trans ?_ (by assumption))); done) | exact AcR.box hxr3 (Hb.mk (Hb.h (by repeat (first | assumption | exact Hb.newY _ _ | refine Hb.alloc ?_ | refine Hb.drew ?_ | refine Hb.ext (by assumption) ?_ | exact Hb.setSameL (by first | omega | (simp only [size_alloc, size_setB, size_drew]; omega)) | exact Hb.setSame (by assumption) | refine Hb.set (by first | omega | (simp only [size_alloc, size_setB, size_drew]; omega)) ?_ )))) | exact AcR.box0 hxr3 (Hb.mk (Hb.h (by repeat (first | assumption | exact Hb.newY _ _ | refine Hb.alloc ?_ | refine Hb.drew ?_ | refine Hb.ext (by assumption) ?_ | exact Hb.setSameL (by first | omega | (simp only [size_alloc, size_setB, size_drew]; omega)) | exact Hb.setSame (by assumption) | refine Hb.set (by first | omega | (simp only [size_alloc, size_setB, size_drew]; omega)) ?_ )))))⟩
      · refine WH_allocG Hvac.zeroValue104 ?_
        intro b7 v7 hg7 hE7 hH7 hl7
        try simp only [size_alloc, size_setB, size_drew] at hg7
        have hzz7 := hE7.1
        try simp only [size_alloc, size_setB, size_drew] at hzz7
        replace hH7 : Hb v7 b7 (.cells ((encYA (ac0 (List.replicate 20 0))).toArray) 104 (0, 0)) := hH7
        refine ⟨fun _ => (by repeat (first | assumption | exact Ext.refl _ | refine Ext.alloc ?_ _ | refine Ext.drew ?_ | refine Ext.setB ?_ (by first | omega | (simp only [size_alloc, size_setB, size_drew]; omega)) _ | exact Ext.trans (by assumption) (by assumption) | refine Ext.trans ?_ (by assumption))), ?_⟩
        refine WH_nil ?_
        refine F_q (i := 5) rfl (by kernel_rfl) ?_
        refine WH_call Hvac.call17 (by rfl) (Ret.mono (acctS (OmB.ext hO (by repeat (first | assumption | exact Ext.refl _ | refine Ext.alloc ?_ _ | refine Ext.drew ?_ | refine Ext.setB ?_ (by first | omega | (simp only [size_alloc, size_setB, size_drew]; omega)) _ | exact Ext.trans (by assumption) (by assumption) | refine Ext.trans ?_ (by assumption)))) (YSS.ext hSS (by repeat (first | assumption | exact Ext.refl _ | refine Ext.alloc ?_ _ | refine Ext.drew ?_ | refine Ext.setB ?_ (by first | omega | (simp only [size_alloc, size_setB, size_drew]; omega)) _ | exact Ext.trans (by assumption) (by assumption) | refine Ext.trans ?_ (by assumption)))) hB (by omega) htx.fr) ?_)
        rintro _ w3 ⟨hE3, x3, rfl, hxa3, hxr3⟩
        refine ⟨(fun h => by cases h), ?_⟩
        have hz3 := hE3.1
        try simp only [size_alloc, size_setB, size_drew] at hz3
        have hxl3 : x3.addr.length = 20 := by rw [hxa3]; exact htx.fr.1
        have hsz3 : (encYA x3).toArray.size = 24 := by simpa using encYA_len hxl3
        have hone3 := one_YA2 x3
        have hc13 := encYA_1 hxl3
        have hc23 := encYA_2 hxl3
        have hc33 := encYA_3 hxl3
        have hnb3 := hxr3.bal
        have hnn3 := hxr3.nonce
        have hzb3 := hxr3.bz
        have hzn3 := hxr3.nz
        have hcl3 := hxr3.code.len
        have hcp3 := hxr3.code
        have hcdl3 := hB.now.cd.acct t.fr
        refine WH_nil ?_
        refine F_q (i := 7) rfl (by kernel_rfl) ?_
        first | refine WH_storeW Hvac.sizeOf104 rfl (v := .agg _) rfl (Hb.h (by repeat (first | assumption | exact Hb.newY _ _ | refine Hb.alloc ?_ | refine Hb.drew ?_ | refine Hb.ext (by assumption) ?_ | exact Hb.setSameL (by first | omega | (simp only [size_alloc, size_setB, size_drew]; omega)) | exact Hb.setSame (by assumption) | refine Hb.set (by first | omega | (simp only [size_alloc, size_setB, size_drew]; omega)) ?_ ))) rfl (by first | omega | assumption | rfl | decide | exact Nat.le_refl _ | (simp only [size_ic, Value.cells]; omega) | (simp [encWs]; done) | (simp; omega) | simp | exact encYA_sz (by assumption) | exact encYT_sz (by assumption) | exact encYM_sz (by assumption)) (by first | omega | assumption | rfl | decide | exact Nat.le_refl _ | (simp only [size_ic, Value.cells]; omega) | (simp [encWs]; done) | (simp; omega) | simp | exact encYA_sz (by assumption) | exact encYT_sz (by assumption) | exact encYM_sz (by assumption)) (by first | exact oneCell_ic | assumption | exact one_Ws2 _ | exact one_YA2 _ | exact one_YSl2 _ | exact one_YM2 _ | exact one_YT2 _ | exact one_L2 _) (fun h => by cases h) ?_ | refine WH_store Hvac.sizeOf104 rfl (v := .agg _) rfl (Hb.h (by repeat (first | assumption | exact Hb.newY _ _ | refine Hb.alloc ?_ | refine Hb.drew ?_ | refine Hb.ext (by assumption) ?_ | exact Hb.setSameL (by first | omega | (simp only [size_alloc, size_setB, size_drew]; omega)) | exact Hb.setSame (by assumption) | refine Hb.set (by first | omega | (simp only [size_alloc, size_setB, size_drew]; omega)) ?_ ))) (by first | omega | assumption | rfl | decide | exact Nat.le_refl _ | (simp only [size_ic, Value.cells]; omega) | (simp [encWs]; done) | (simp; omega) | simp | exact encYA_sz (by assumption) | exact encYT_sz (by assumption) | exact encYM_sz (by assumption)) (by first | omega | assumption | rfl | decide | exact Nat.le_refl _ | (simp only [size_ic, Value.cells]; omega) | (simp [encWs]; done) | (simp; omega) | simp | exact encYA_sz (by assumption) | exact encYT_sz (by assumption) | exact encYM_sz (by assumption)) (by first | exact oneCell_ic | assumption | exact one_Ws2 _ | exact one_YA2 _ | exact one_YSl2 _ | exact one_YM2 _ | exact one_YT2 _ | exact one_L2 _) (fun h => by cases h) ?_
        refine WH_nil ?_
        refine F_end ?_
        refine thn_normal ?_
        exact ⟨x3, b7, ⟨rfl, rfl, rfl, trivial⟩, (by repeat (first | assumption | exact Ext.refl _ | refine Ext.alloc ?_ _ | refine Ext.drew ?_ | refine Ext.setB ?_ (by first | omega | (simp only [size_alloc, size_setB, size_drew]; omega)) _ | exact Ext.trans (by assumption) (by assumption) | refine Ext.trans ?_ (by assumption))), Hb.mk (Hb.h (by repeat (first | assumption | exact Hb.newY _ _ | refine Hb.alloc ?_ | refine Hb.drew ?_ | refine Hb.ext (by assumption) ?_ | exact Hb.setSameL (by first | omega | (simp only [size_alloc, size_setB, size_drew]; omega)) | exact Hb.setSame (by assumption) | refine Hb.set (by first | omega | (simp only [size_alloc, size_setB, size_drew]; omega)) ?_ ))), by omega, by omega, Hb.mk (Hb.h (by repeat (first | assumption | exact Hb.newY _ _ | refine Hb.alloc ?_ | refine Hb.drew ?_ | refine Hb.ext (by assumption) ?_ | exact Hb.setSameL (by first | omega | (simp only [size_alloc, size_setB, size_drew]; omega)) | exact Hb.setSame (by assumption) | refine Hb.set (by first | omega | (simp only [size_alloc, size_setB, size_drew]; omega)) ?_ ))), hxa3, (by first | assumption | (refine AcR.ext hxr3 ?_; (repeat (first | assumption | exact Ext.refl _ | refine Ext.alloc ?_ _ | refine Ext.drew ?_ | refine Ext.setB ?_ (by first | omega | (simp only [size_alloc, size_setB, size_drew]; omega)) _ | refine Ext.trans ?_ (by assumption))); done) | exact AcR.box hxr3 (Hb.mk (Hb.h (by repeat (first | assumption | exact Hb.newY _ _ | refine Hb.alloc ?_ | refine Hb.drew ?_ | refine Hb.ext (by assumption) ?_ | exact Hb.setSameL (by first | omega | (simp only [size_alloc, size_setB, size_drew]; omega)) | exact Hb.setSame (by assumption) | refine Hb.set (by first | omega | (simp only [size_alloc, size_setB, size_drew]; omega)) ?_ )))) | exact AcR.box0 hxr3 (Hb.mk (Hb.h (by repeat (first | assumption | exact Hb.newY _ _ | refine Hb.alloc ?_ | refine Hb.drew ?_ | refine Hb.ext (by assumption) ?_ | exact Hb.setSameL (by first | omega | (simp only [size_alloc, size_setB, size_drew]; omega)) | exact Hb.setSame (by assumption) | refine Hb.set (by first | omega | (simp only [size_alloc, size_setB, size_drew]; omega)) ?_ )))))⟩
    · rintro ρ6 w6 ⟨x3, b7, hFr6, hE6, hb36, hg7, hne37, hb76, hxa3, hxr6⟩
      refine W_env _ hFr6 ?_
      have hz6 := hE6.1
      have hb3l := hb36.lt
      have hb7l := hb76.lt
      have hSS6 := hSS.ext hE6
      have hSb6 := hSS6.blk
      have hSl6 := hSb6.lt
      replace hO := hO.ext hE6
      have hxr3 := hxr6
      have hxl3 : x3.addr.length = 20 := by rw [hxa3]; exact htx.fr.1
      have hsz3 : (encYA x3).toArray.size = 24 := by simpa using encYA_len hxl3
      have hone3 := one_YA2 x3
      have hc13 := encYA_1 hxl3
      have hc23 := encYA_2 hxl3
      have hc33 := encYA_3 hxl3
      have hnb3 := hxr3.bal
      have hnn3 := hxr3.nonce
      have hzb3 := hxr3.bz
      have hzn3 := hxr3.nz
      have hcl3 := hxr3.code.len
      have hcp3 := hxr3.code
      have hcdl3 := hB.now.cd.acct t.fr
      refine W_seq ?_
      refine W_region rfl ?_
      refine WO_p (PS_fieldAddr 20 Hvac.runUnderlying35 rfl Hvac.sizeOf25 rfl rfl) ?_
      refine WO_loadA _ Hvac.isAgg25 Hvac.sizeOf25 rfl (Hb.h (by repeat (first | assumption | exact Hb.newY _ _ | refine Hb.alloc ?_ | refine Hb.drew ?_ | refine Hb.ext (by assumption) ?_ | exact Hb.setSameL (by first | omega | (simp only [size_alloc, size_setB, size_drew]; omega)) | exact Hb.setSame (by assumption) | refine Hb.set (by first | omega | (simp only [size_alloc, size_setB, size_drew]; omega)) ?_ ))) (by first | omega | assumption | rfl | decide | exact Nat.le_refl _ | (simp only [size_ic, Value.cells]; omega) | (simp [encWs]; done) | (simp; omega) | simp | exact encYA_sz (by assumption) | exact encYT_sz (by assumption) | exact encYM_sz (by assumption)) (Xt.h (by first | assumption | exact Xt.whole rfl rfl | exact Xt.whole rfl (by assumption) | exact Xt.whole rfl (by simp only [size_ic, Value.cells]; omega) | exact ⟨rfl⟩)) ?_
      refine WO_allocG Hvac.zeroValue25 ?_
      intro b8 v8 hg8 hE8 hH8 hl8
      try simp only [size_alloc, size_setB, size_drew] at hg8
      have hzz8 := hE8.1
      try simp only [size_alloc, size_setB, size_drew] at hzz8
      replace hH8 : Hb v8 b8 (.cells (ic .u8 (List.replicate 20 0)) 25 (0, 0)) := hH8
      first | refine WO_storeW Hvac.sizeOf25 rfl (v := .agg _) rfl (Hb.h (by repeat (first | assumption | exact Hb.newY _ _ | refine Hb.alloc ?_ | refine Hb.drew ?_ | refine Hb.ext (by assumption) ?_ | exact Hb.setSameL (by first | omega | (simp only [size_alloc, size_setB, size_drew]; omega)) | exact Hb.setSame (by assumption) | refine Hb.set (by first | omega | (simp only [size_alloc, size_setB, size_drew]; omega)) ?_ ))) rfl (by first | omega | assumption | rfl | decide | exact Nat.le_refl _ | (simp only [size_ic, Value.cells]; omega) | (simp [encWs]; done) | (simp; omega) | simp | exact encYA_sz (by assumption) | exact encYT_sz (by assumption) | exact encYM_sz (by assumption)) (by first | omega | assumption | rfl | decide | exact Nat.le_refl _ | (simp only [size_ic, Value.cells]; omega) | (simp [encWs]; done) | (simp; omega) | simp | exact encYA_sz (by assumption) | exact encYT_sz (by assumption) | exact encYM_sz (by assumption)) (by first | exact oneCell_ic | assumption | exact one_Ws2 _ | exact one_YA2 _ | exact one_YSl2 _ | exact one_YM2 _ | exact one_YT2 _ | exact one_L2 _) ?_ | refine WO_store Hvac.sizeOf25 rfl (v := .agg _) rfl (Hb.h (by repeat (first | assumption | exact Hb.newY _ _ | refine Hb.alloc ?_ | refine Hb.drew ?_ | refine Hb.ext (by assumption) ?_ | exact Hb.setSameL (by first | omega | (simp only [size_alloc, size_setB, size_drew]; omega)) | exact Hb.setSame (by assumption) | refine Hb.set (by first | omega | (simp only [size_alloc, size_setB, size_drew]; omega)) ?_ ))) (by first | omega | assumption | rfl | decide | exact Nat.le_refl _ | (simp only [size_ic, Value.cells]; omega) | (simp [encWs]; done) | (simp; omega) | simp | exact encYA_sz (by assumption) | exact encYT_sz (by assumption) | exact encYM_sz (by assumption)) (by first | omega | assumption | rfl | decide | exact Nat.le_refl _ | (simp only [size_ic, Value.cells]; omega) | (simp [encWs]; done) | (simp; omega) | simp | exact encYA_sz (by assumption) | exact encYT_sz (by assumption) | exact encYM_sz (by assumption)) (by first | exact oneCell_ic | assumption | exact one_Ws2 _ | exact one_YA2 _ | exact one_YSl2 _ | exact one_YM2 _ | exact one_YT2 _ | exact one_L2 _) ?_
      refine WO_nil ?_
      refine thn_normal ?_
      refine W_seq ?_
      refine W_region rfl ?_
      refine WO_p (PS_move_ptr rfl) ?_
      refine WO_p (PS_buildI (k := .u8) (zs := [0, 0, 0, 0, 0, 0, 0, 0, 0, 0, 0, 0, 0, 0, 0, 0, 0, 0, 0, 0]) (ps := []) (L := [0, 0, 0, 0, 0, 0, 0, 0, 0, 0, 0, 0, 0, 0, 0, 0, 0, 0, 0, 0]) Hvac.zeroValue25 Hvac.runUnderlying25 Hvac.sizeOf5 rfl rfl rfl rfl) ?_
      refine WO_p (PS_nilCheck rfl) ?_
      refine WO_p (PS_fieldAddr 39 Hvac.runUnderlying99 rfl Hvac.sizeOf25 rfl rfl) ?_
      refine WO_store Hvac.sizeOf25 rfl (v := .agg (ic .u8 (List.replicate 20 0))) rfl (Hb.h (by repeat (first | assumption | exact Hb.newY _ _ | refine Hb.alloc ?_ | refine Hb.drew ?_ | refine Hb.ext (by assumption) ?_ | exact Hb.setSameL (by first | omega | (simp only [size_alloc, size_setB, size_drew]; omega)) | exact Hb.setSame (by assumption) | refine Hb.set (by first | omega | (simp only [size_alloc, size_setB, size_drew]; omega)) ?_ ))) (by show (ic .u8 (List.replicate 20 0)).size = 20; rw [size_ic]; exact List.length_replicate) (by omega) (by intro u hu; exact oneCell_ic u hu) ?_
      refine WO_nil ?_
      refine thn_normal ?_
      refine W_seq ?_
      refine W_gen fun w7 hw7 => ?_
      have hT7 : SStep w6 w7 C ({ x with made := (List.replicate 20 0) }) ({ y with made := (List.replicate 20 0) }) := SStep.put2 hw7 hSS6 (by repeat (first | assumption | exact Ext.refl _ | refine Ext.alloc ?_ _ | refine Ext.drew ?_ | refine Ext.setB ?_ (by first | omega | (simp only [size_alloc, size_setB, size_drew]; omega)) _ | refine Ext.trans ?_ (by assumption))) (encYS_ms hol hml List.length_replicate) ({ StRel.ext hSS6.rel (by repeat (first | assumption | exact Ext.refl _ | refine Ext.alloc ?_ _ | refine Ext.drew ?_ | refine Ext.setB ?_ (by first | omega | (simp only [size_alloc, size_setB, size_drew]; omega)) _ | refine Ext.trans ?_ (by assumption))) with made := rfl, mb := ⟨List.length_replicate, by_zero 20⟩ })
      have hK7 := hT7.keep
      have hKO7 := hT7.ko
      replace hO := hO.keep hKO7
      have hSS7 := hT7.ss
      have hSb7 := hSS7.blk
      have hSl7 := hSb7.lt
      have hz7 := hK7.sz
      have hzs7 := encYS_size ({ x with made := (List.replicate 20 0) })
      have hb37 : Hb w7 b3 (.cells (encTx t).toArray 35 (0, 0)) := by rw [hw7]; exact Hb.mk (Hb.h (by repeat (first | assumption | exact Hb.newY _ _ | refine Hb.alloc ?_ | refine Hb.drew ?_ | refine Hb.ext (by assumption) ?_ | exact Hb.setSameL (by first | omega | (simp only [size_alloc, size_setB, size_drew]; omega)) | exact Hb.setSame (by assumption) | refine Hb.set (by first | omega | (simp only [size_alloc, size_setB, size_drew]; omega)) ?_ )))
      have hb77 : Hb w7 b7 (.cells (encYA x3).toArray 104 (0, 0)) := by rw [hw7]; exact Hb.mk (Hb.h (by repeat (first | assumption | exact Hb.newY _ _ | refine Hb.alloc ?_ | refine Hb.drew ?_ | refine Hb.ext (by assumption) ?_ | exact Hb.setSameL (by first | omega | (simp only [size_alloc, size_setB, size_drew]; omega)) | exact Hb.setSame (by assumption) | refine Hb.set (by first | omega | (simp only [size_alloc, size_setB, size_drew]; omega)) ?_ )))
      have hb87 : Hb w7 b8 (.cells (ic .u8 t.to_) 25 (0, 0)) := by rw [hw7]; exact Hb.mk (Hb.h (by repeat (first | assumption | exact Hb.newY _ _ | refine Hb.alloc ?_ | refine Hb.drew ?_ | refine Hb.ext (by assumption) ?_ | exact Hb.setSameL (by first | omega | (simp only [size_alloc, size_setB, size_drew]; omega)) | exact Hb.setSame (by assumption) | refine Hb.set (by first | omega | (simp only [size_alloc, size_setB, size_drew]; omega)) ?_ )))
      clear hw7
      have hb3l7 := hb37.lt
      have hb7l7 := hb77.lt
      have hb8l7 := hb87.lt
      have hszS7 := encYS_sz (x := { x with made := (List.replicate 20 0) }) hol List.length_replicate hEB
      refine W_region rfl ?_
      refine WO_p (PS_move_ptr rfl) ?_
      refine WO_p (PS_nilCheck rfl) ?_
      refine WO_p (PS_fieldAddr 9 Hvac.runUnderlying99 rfl Hvac.sizeOf97 rfl rfl) ?_
      refine WO_store1 Hvac.sizeOf97 rfl (v := (.slice _ _ _)) rfl (Hb.h (by repeat (first | assumption | exact Hb.newY _ _ | refine Hb.alloc ?_ | refine Hb.drew ?_ | refine Hb.ext (by assumption) ?_ | exact Hb.setSameL (by first | omega | (simp only [size_alloc, size_setB, size_drew]; omega)) | exact Hb.setSame (by assumption) | refine Hb.set (by first | omega | (simp only [size_alloc, size_setB, size_drew]; omega)) ?_ ))) rfl (by first | omega | assumption | rfl | decide | exact Nat.le_refl _ | (simp only [size_ic, Value.cells]; omega) | (simp [encWs]; done) | (simp; omega) | simp | exact encYA_sz (by assumption) | exact encYT_sz (by assumption) | exact encYM_sz (by assumption)) rfl ?_
      refine WO_nil ?_
      refine thn_normal ?_
      refine W_seqJ (fun ρ w' => ∃ (x1 : YSt), Fr [(3, .pointer (some ⟨b3, 0, none⟩)), (5, .pointer (some ⟨C, 0, none⟩)), (7, .pointer (some ⟨b7, 0, none⟩)), (8, .pointer (some ⟨b8, 0, none⟩))] ρ ∧ SStep w w' C x1 ({ y with made := ybMd ks y t }) ∧ x1.frames = (none, 0, 0) ∧ x1.now.logs = x.now.logs ∧ Hb w' b3 (.cells (encTx t).toArray 35 (0, 0)) ∧ Hb w' b8 (.cells (ic .u8 (ybTo ks y t)) 25 (0, 0)) ∧ Hb w' b7 (.cells (encYA x3).toArray 104 (0, 0)) ∧ AcR w' x3 (yacct y.now.accts t.fr)) ?_ ?_
      · skip
        refine W_seq ?_
        refine W_gen fun w8 hw8 => ?_
        have hT8 : SStep w7 w8 C ({ x with made := (List.replicate 20 0), frames := (none, 0, 0) }) ({ y with made := (List.replicate 20 0) }) := SStep.put2 hw8 hSS7 (by repeat (first | assumption | exact Ext.refl _ | refine Ext.alloc ?_ _ | refine Ext.drew ?_ | refine Ext.setB ?_ (by first | omega | (simp only [size_alloc, size_setB, size_drew]; omega)) _ | refine Ext.trans ?_ (by assumption))) (encYS_9 _ (none, 0, 0)) ({ StRel.ext hSS7.rel (by repeat (first | assumption | exact Ext.refl _ | refine Ext.alloc ?_ _ | refine Ext.drew ?_ | refine Ext.setB ?_ (by first | omega | (simp only [size_alloc, size_setB, size_drew]; omega)) _ | refine Ext.trans ?_ (by assumption))) with now := (StRel.ext hSS7.rel (by repeat (first | assumption | exact Ext.refl _ | refine Ext.alloc ?_ _ | refine Ext.drew ?_ | refine Ext.setB ?_ (by first | omega | (simp only [size_alloc, size_setB, size_drew]; omega)) _ | refine Ext.trans ?_ (by assumption)))).now })
        have hK8 := hT8.keep
        have hKO8 := hT8.ko
        replace hO := hO.keep hKO8
        have hSS8 := hT8.ss
        have hSb8 := hSS8.blk
        have hSl8 := hSb8.lt
        have hz8 := hK8.sz
        have hzs8 := encYS_size ({ x with made := (List.replicate 20 0), frames := (none, 0, 0) })
        have hb38 : Hb w8 b3 (.cells (encTx t).toArray 35 (0, 0)) := by rw [hw8]; exact Hb.mk (Hb.h (by repeat (first | assumption | exact Hb.newY _ _ | refine Hb.alloc ?_ | refine Hb.drew ?_ | refine Hb.ext (by assumption) ?_ | exact Hb.setSameL (by first | omega | (simp only [size_alloc, size_setB, size_drew]; omega)) | exact Hb.setSame (by assumption) | refine Hb.set (by first | omega | (simp only [size_alloc, size_setB, size_drew]; omega)) ?_ )))
        have hb78 : Hb w8 b7 (.cells (encYA x3).toArray 104 (0, 0)) := by rw [hw8]; exact Hb.mk (Hb.h (by repeat (first | assumption | exact Hb.newY _ _ | refine Hb.alloc ?_ | refine Hb.drew ?_ | refine Hb.ext (by assumption) ?_ | exact Hb.setSameL (by first | omega | (simp only [size_alloc, size_setB, size_drew]; omega)) | exact Hb.setSame (by assumption) | refine Hb.set (by first | omega | (simp only [size_alloc, size_setB, size_drew]; omega)) ?_ )))
        have hb88 : Hb w8 b8 (.cells (ic .u8 t.to_) 25 (0, 0)) := by rw [hw8]; exact Hb.mk (Hb.h (by repeat (first | assumption | exact Hb.newY _ _ | refine Hb.alloc ?_ | refine Hb.drew ?_ | refine Hb.ext (by assumption) ?_ | exact Hb.setSameL (by first | omega | (simp only [size_alloc, size_setB, size_drew]; omega)) | exact Hb.setSame (by assumption) | refine Hb.set (by first | omega | (simp only [size_alloc, size_setB, size_drew]; omega)) ?_ )))
        clear hw8
        have hb3l8 := hb38.lt
        have hb7l8 := hb78.lt
        have hb8l8 := hb88.lt
        have hszS8 := encYS_sz (x := { x with made := (List.replicate 20 0), frames := (none, 0, 0) }) hol List.length_replicate hEB
        have hT8a : SStep w w8 C ({ x with made := (List.replicate 20 0), frames := (none, 0, 0) }) ({ y with made := (List.replicate 20 0) }) := (SStep.pre hE6 hT7).trans hT8
        have hxr8 : AcR w8 x3 (yacct y.now.accts t.fr) := (hxr6.keep hKO7).keep hKO8
        have hnn8 := hxr8.nonce
        refine W_region rfl ?_
        refine WO_p (PS_fieldAddr 40 Hvac.runUnderlying35 rfl Hvac.sizeOf4 rfl rfl) ?_
        refine WO_load (.bool _) Hvac.isAgg4 rfl (Hb.h (by repeat (first | assumption | exact Hb.newY _ _ | refine Hb.alloc ?_ | refine Hb.drew ?_ | refine Hb.ext (by assumption) ?_ | exact Hb.setSameL (by first | omega | (simp only [size_alloc, size_setB, size_drew]; omega)) | exact Hb.setSame (by assumption) | refine Hb.set (by first | omega | (simp only [size_alloc, size_setB, size_drew]; omega)) ?_ ))) (Ce.h (by first | assumption | exact ⟨rfl⟩)) ?_
        refine WO_nil ?_
        refine thn_normal ?_
        refine W_if rfl (fun hb7 => ?_) (fun hb7 => ?_)
        · have hb7p := hb7.h; try simp only [al_ete, al_dfn, Bool.not_eq_true', Bool.not_eq_false', al_ne, Bool.not_not, al_nn] at hb7p
          have hc9 : t.create = true := hb7p
          have hto : ybTo ks y t = ycr1 ks t.fr (yacct y.now.accts t.fr).nonce := by unfold ybTo; rw [if_pos hc9]
          have hmd : ybMd ks y t = ycr1 ks t.fr (yacct y.now.accts t.fr).nonce := by unfold ybMd; rw [if_pos hc9]
          refine W_seq ?_
          refine W_region rfl ?_
          refine WO_p (PS_fieldAddr 0 Hvac.runUnderlying35 rfl Hvac.sizeOf25 rfl rfl) ?_
          refine WO_loadA _ Hvac.isAgg25 Hvac.sizeOf25 rfl (Hb.h (by repeat (first | assumption | exact Hb.newY _ _ | refine Hb.alloc ?_ | refine Hb.drew ?_ | refine Hb.ext (by assumption) ?_ | exact Hb.setSameL (by first | omega | (simp only [size_alloc, size_setB, size_drew]; omega)) | exact Hb.setSame (by assumption) | refine Hb.set (by first | omega | (simp only [size_alloc, size_setB, size_drew]; omega)) ?_ ))) (by first | omega | assumption | rfl | decide | exact Nat.le_refl _ | (simp only [size_ic, Value.cells]; omega) | (simp [encWs]; done) | (simp; omega) | simp | exact encYA_sz (by assumption) | exact encYT_sz (by assumption) | exact encYM_sz (by assumption)) (Xt.h (by first | assumption | exact Xt.whole rfl rfl | exact Xt.whole rfl (by assumption) | exact Xt.whole rfl (by simp only [size_ic, Value.cells]; omega) | exact ⟨rfl⟩)) ?_
          refine WO_p (PS_fieldAddr 20 Hvac.runUnderlying104 rfl Hvac.sizeOf92 rfl rfl) ?_
          refine WO_load (.slice _ _ _) Hvac.isAgg92 rfl (Hb.h (by repeat (first | assumption | exact Hb.newY _ _ | refine Hb.alloc ?_ | refine Hb.drew ?_ | refine Hb.ext (by assumption) ?_ | exact Hb.setSameL (by first | omega | (simp only [size_alloc, size_setB, size_drew]; omega)) | exact Hb.setSame (by assumption) | refine Hb.set (by first | omega | (simp only [size_alloc, size_setB, size_drew]; omega)) ?_ ))) (Ce.h (by first | assumption | exact ⟨rfl⟩)) ?_
          refine WO_call Hvac.call18 (by rfl) (Ret.mono (yCreate1_spec _ (OmB.ext hO (by repeat (first | assumption | exact Ext.refl _ | refine Ext.alloc ?_ _ | refine Ext.drew ?_ | refine Ext.setB ?_ (by first | omega | (simp only [size_alloc, size_setB, size_drew]; omega)) _ | exact Ext.trans (by assumption) (by assumption) | refine Ext.trans ?_ (by assumption)))) ks hK t.fr htx.fr _ _ _ _ (by first | exact NN.nil _ | assumption | exact NN.ext (by assumption) (by repeat (first | assumption | exact Ext.refl _ | refine Ext.alloc ?_ _ | refine Ext.drew ?_ | refine Ext.setB ?_ (by first | omega | (simp only [size_alloc, size_setB, size_drew]; omega)) _ | exact Ext.trans (by assumption) (by assumption) | refine Ext.trans ?_ (by assumption)))) (by omega)) ?_)
          rintro _ w18_7 ⟨hE18_7, rfl⟩
          have hz18_7 := hE18_7.1
          try simp only [size_alloc, size_setB, size_drew] at hz18_7
          have hcl := (ycr1_by hK t.fr (yacct y.now.accts t.fr).nonce).1
          refine WO_storeW Hvac.sizeOf25 rfl (v := .agg (ic .u8 (ycr1 ks t.fr (yacct y.now.accts t.fr).nonce))) rfl (Hb.h (by repeat (first | assumption | exact Hb.newY _ _ | refine Hb.alloc ?_ | refine Hb.drew ?_ | refine Hb.ext (by assumption) ?_ | exact Hb.setSameL (by first | omega | (simp only [size_alloc, size_setB, size_drew]; omega)) | exact Hb.setSame (by assumption) | refine Hb.set (by first | omega | (simp only [size_alloc, size_setB, size_drew]; omega)) ?_ ))) rfl (by show (ic .u8 _).size = 20; rw [size_ic]; exact hcl) (by rw [size_ic]; exact hTl) (by intro u hu; exact oneCell_ic u hu) ?_
          refine WO_nil ?_
          refine thn_normal ?_
          refine W_region rfl ?_
          refine WO_p (PS_move_ptr rfl) ?_
          refine WO_loadA _ Hvac.isAgg25 Hvac.sizeOf25 rfl (Hb.h (by repeat (first | assumption | exact Hb.newY _ _ | refine Hb.alloc ?_ | refine Hb.drew ?_ | refine Hb.ext (by assumption) ?_ | exact Hb.setSameL (by first | omega | (simp only [size_alloc, size_setB, size_drew]; omega)) | exact Hb.setSame (by assumption) | refine Hb.set (by first | omega | (simp only [size_alloc, size_setB, size_drew]; omega)) ?_ ))) (by first | omega | assumption | rfl | decide | exact Nat.le_refl _ | (simp only [size_ic, Value.cells]; omega) | (simp [encWs]; done) | (simp; omega) | simp | exact encYA_sz (by assumption) | exact encYT_sz (by assumption) | exact encYM_sz (by assumption)) (Xt.h (by first | assumption | exact Xt.whole rfl rfl | exact Xt.whole rfl (by assumption) | exact Xt.whole rfl (by simp only [size_ic, Value.cells]; omega) | exact ⟨rfl⟩)) ?_
          refine WO_p (PS_nilCheck rfl) ?_
          refine WO_p (PS_fieldAddr 39 Hvac.runUnderlying99 rfl Hvac.sizeOf25 rfl rfl) ?_
          refine WO_store Hvac.sizeOf25 rfl (v := .agg (ic .u8 (ycr1 ks t.fr (yacct y.now.accts t.fr).nonce))) rfl (Hb.h (by repeat (first | assumption | exact Hb.newY _ _ | refine Hb.alloc ?_ | refine Hb.drew ?_ | refine Hb.ext (by assumption) ?_ | exact Hb.setSameL (by first | omega | (simp only [size_alloc, size_setB, size_drew]; omega)) | exact Hb.setSame (by assumption) | refine Hb.set (by first | omega | (simp only [size_alloc, size_setB, size_drew]; omega)) ?_ ))) (by show (ic .u8 (ycr1 ks t.fr (yacct y.now.accts t.fr).nonce)).size = 20; rw [size_ic]; exact hcl) (by omega) (by intro u hu; exact oneCell_ic u hu) ?_
          refine WO_nil ?_
          refine thn_normal ?_
          rw [hto, hmd]; have hKa := KeepO.setB (O := fun b => b = C) (KeepO.setB ((hK7.trans hK8 (fun _ _ e => e)).extR hE18_7) (x := b8) (fun h9 => absurd h9 (by omega)) (.cells (Value.agg (ic .u8 (ycr1 ks t.fr (yacct y.now.accts t.fr).nonce))).cells 25 (0, 0))) (x := C) (fun _ => rfl) (.cells (splice (encYS { x with made := (List.replicate 20 0), frames := (none, 0, 0) }).toArray (0 + 39) (Value.agg (ic .u8 (ycr1 ks t.fr (yacct y.now.accts t.fr).nonce))).cells.toList) 101 (0, 0)); have hKw := (hE6.keepO _).trans hKa (fun _ _ e => e); exact ⟨{ x with made := (ycr1 ks t.fr (yacct y.now.accts t.fr).nonce), frames := (none, 0, 0) }, ⟨rfl, rfl, rfl, rfl, trivial⟩, toSS hS hKw (Hb.mk (Hb.h (by repeat (first | assumption | exact Hb.newY _ _ | refine Hb.alloc ?_ | refine Hb.drew ?_ | refine Hb.ext (by assumption) ?_ | exact Hb.setSameL (by first | omega | (simp only [size_alloc, size_setB, size_drew]; omega)) | exact Hb.setSame (by assumption) | refine Hb.set (by first | omega | (simp only [size_alloc, size_setB, size_drew]; omega)) ?_ )))) (encYS_ms (x := { x with made := (List.replicate 20 0), frames := (none, 0, 0) }) hol List.length_replicate hcl) { hS.kpC hKw with made := rfl, mb := ycr1_by hK _ _ }, rfl, rfl, Hb.mk (Hb.h (by repeat (first | assumption | exact Hb.newY _ _ | refine Hb.alloc ?_ | refine Hb.drew ?_ | refine Hb.ext (by assumption) ?_ | exact Hb.setSameL (by first | omega | (simp only [size_alloc, size_setB, size_drew]; omega)) | exact Hb.setSame (by assumption) | refine Hb.set (by first | omega | (simp only [size_alloc, size_setB, size_drew]; omega)) ?_ ))), Hb.mk (Hb.h (by repeat (first | assumption | exact Hb.newY _ _ | refine Hb.alloc ?_ | refine Hb.drew ?_ | refine Hb.ext (by assumption) ?_ | exact Hb.setSameL (by first | omega | (simp only [size_alloc, size_setB, size_drew]; omega)) | exact Hb.setSame (by assumption) | refine Hb.set (by first | omega | (simp only [size_alloc, size_setB, size_drew]; omega)) ?_ ))), Hb.mk (Hb.h (by repeat (first | assumption | exact Hb.newY _ _ | refine Hb.alloc ?_ | refine Hb.drew ?_ | refine Hb.ext (by assumption) ?_ | exact Hb.setSameL (by first | omega | (simp only [size_alloc, size_setB, size_drew]; omega)) | exact Hb.setSame (by assumption) | refine Hb.set (by first | omega | (simp only [size_alloc, size_setB, size_drew]; omega)) ?_ ))), AcR.keep hxr6 (hKa.om fun b _ e => e ▸ hSo)⟩
        · have hb7p := hb7.h; try simp only [al_ete, al_dfn, Bool.not_eq_true', Bool.not_eq_false', al_ne, Bool.not_not, al_nn] at hb7p
          have hc9 : ¬ t.create = true := by rw [hb7p]; decide
          have hto : ybTo ks y t = t.to_ := by unfold ybTo; rw [if_neg hc9]
          have hmd : ybMd ks y t = (List.replicate 20 0) := by unfold ybMd; rw [if_neg hc9]
          refine W_skip ?_
          refine thn_normal ?_
          rw [hto, hmd]; exact ⟨_, ⟨rfl, rfl, rfl, rfl, trivial⟩, hT8a, rfl, rfl, Hb.mk (Hb.h (by repeat (first | assumption | exact Hb.newY _ _ | refine Hb.alloc ?_ | refine Hb.drew ?_ | refine Hb.ext (by assumption) ?_ | exact Hb.setSameL (by first | omega | (simp only [size_alloc, size_setB, size_drew]; omega)) | exact Hb.setSame (by assumption) | refine Hb.set (by first | omega | (simp only [size_alloc, size_setB, size_drew]; omega)) ?_ ))), Hb.mk (Hb.h (by repeat (first | assumption | exact Hb.newY _ _ | refine Hb.alloc ?_ | refine Hb.drew ?_ | refine Hb.ext (by assumption) ?_ | exact Hb.setSameL (by first | omega | (simp only [size_alloc, size_setB, size_drew]; omega)) | exact Hb.setSame (by assumption) | refine Hb.set (by first | omega | (simp only [size_alloc, size_setB, size_drew]; omega)) ?_ ))), Hb.mk (Hb.h (by repeat (first | assumption | exact Hb.newY _ _ | refine Hb.alloc ?_ | refine Hb.drew ?_ | refine Hb.ext (by assumption) ?_ | exact Hb.setSameL (by first | omega | (simp only [size_alloc, size_setB, size_drew]; omega)) | exact Hb.setSame (by assumption) | refine Hb.set (by first | omega | (simp only [size_alloc, size_setB, size_drew]; omega)) ?_ ))), AcR.ext hxr8 (by repeat (first | assumption | exact Ext.refl _ | refine Ext.alloc ?_ _ | refine Ext.drew ?_ | refine Ext.setB ?_ (by first | omega | (simp only [size_alloc, size_setB, size_drew]; omega)) _ | refine Ext.trans ?_ (by assumption)))⟩
      · rintro ρ12 w12 ⟨x1, hFr12, hT12, hxf12, hlg12, hb312, hb812, hb712, hxr12⟩
        refine W_env _ hFr12 ?_
        have hSS12 := hT12.ss
        have hSb12 := hSS12.blk
        have hSl12 := hSb12.lt
        have hO12 := hX.omb.keep hT12.keep
        replace hO := hO12
        have hz12 := hT12.keep.sz
        have hb3l12 := hb312.lt
        have hb8l12 := hb812.lt
        have hol12 : x1.origin.length = 20 := by rw [hSS12.rel.origin]; exact hSS12.rel.ob.1
        have hml12 : x1.made.length = 20 := by rw [hSS12.rel.made]; exact hSS12.rel.mb.1
        have hzs12 := encYS_size x1
        have hszS12 := encYS_sz hol12 hml12 (by rw [hSS12.rel.env]; exact hSS12.rel.evb)
        have hEz12 : Ext w0 w12 := ext_keep he0 hT12.keep (fun b e => e ▸ hlow)
        have htx12 := htx0.ext hEz12
        have hb7l12 := hb712.lt
        have hnb12 := hxr12.bal
        have hnn12 := hxr12.nonce
        have hcp12 := hxr12.code
        have happ12 : x1.applied = y.applied := hSS12.rel.applied
        have hk13a : Ce (encYS x1).toArray (0 + 13) (.int .u8 x1.applied) := ⟨rfl⟩
        have hap12 : x1.applied < 4 := by rw [happ12]; exact hV.ap
        refine W_seq ?_
        refine W_region rfl ?_
        refine WO_p (PS_move_ptr rfl) ?_
        refine WO_p (PS_nilCheck rfl) ?_
        refine WO_p (PS_fieldAddr 13 Hvac.runUnderlying99 rfl Hvac.sizeOf5 rfl rfl) ?_
        refine WO_load (.int _ _) Hvac.isAgg5 rfl (Hb.h (by repeat (first | assumption | exact Hb.newY _ _ | refine Hb.alloc ?_ | refine Hb.drew ?_ | refine Hb.ext (by assumption) ?_ | exact Hb.setSameL (by first | omega | (simp only [size_alloc, size_setB, size_drew]; omega)) | exact Hb.setSame (by assumption) | refine Hb.set (by first | omega | (simp only [size_alloc, size_setB, size_drew]; omega)) ?_ ))) (Ce.h (by first | assumption | exact ⟨rfl⟩)) ?_
        refine WO_p (PS_add_u8n rfl rfl (by omega) (by omega)) ?_
        rw [show ((x1.applied : Int) + 1) = ((x1.applied + 1 : Nat) : Int) by omega]
        refine WO_p (PS_nilCheck rfl) ?_
        refine WO_p (PS_fieldAddr 13 Hvac.runUnderlying99 rfl Hvac.sizeOf5 rfl rfl) ?_
        refine WO_store1 Hvac.sizeOf5 rfl (v := (.int _ _)) rfl (Hb.h (by repeat (first | assumption | exact Hb.newY _ _ | refine Hb.alloc ?_ | refine Hb.drew ?_ | refine Hb.ext (by assumption) ?_ | exact Hb.setSameL (by first | omega | (simp only [size_alloc, size_setB, size_drew]; omega)) | exact Hb.setSame (by assumption) | refine Hb.set (by first | omega | (simp only [size_alloc, size_setB, size_drew]; omega)) ?_ ))) rfl (by first | omega | assumption | rfl | decide | exact Nat.le_refl _ | (simp only [size_ic, Value.cells]; omega) | (simp [encWs]; done) | (simp; omega) | simp | exact encYA_sz (by assumption) | exact encYT_sz (by assumption) | exact encYM_sz (by assumption)) rfl ?_
        refine WO_nil ?_
        refine thn_normal ?_
        refine W_seq ?_
        refine W_gen fun ws12 hws12 => ?_
        have hTs12 : SStep w12 ws12 C ({ x1 with applied := x1.applied + 1 }) ({ y with made := ybMd ks y t, applied := y.applied + 1 }) := SStep.put2 hws12 hSS12 (by repeat (first | assumption | exact Ext.refl _ | refine Ext.alloc ?_ _ | refine Ext.drew ?_ | refine Ext.setB ?_ (by first | omega | (simp only [size_alloc, size_setB, size_drew]; omega)) _ | refine Ext.trans ?_ (by assumption))) (encYS_13 x1 (x1.applied + 1)) ({ StRel.ext hSS12.rel (by repeat (first | assumption | exact Ext.refl _ | refine Ext.alloc ?_ _ | refine Ext.drew ?_ | refine Ext.setB ?_ (by first | omega | (simp only [size_alloc, size_setB, size_drew]; omega)) _ | refine Ext.trans ?_ (by assumption))) with applied := by show x1.applied + 1 = y.applied + 1; rw [happ12] })
        have hKs12 := hTs12.keep
        have hKOs12 := hTs12.ko
        replace hO := hO.keep hKOs12
        have hSSs12 := hTs12.ss
        have hSbs12 := hSSs12.blk
        have hSls12 := hSbs12.lt
        have hzs12 := hKs12.sz
        have hzss12 := encYS_size ({ x1 with applied := x1.applied + 1 })
        have hb3s12 : Hb ws12 b3 (.cells (encTx t).toArray 35 (0, 0)) := by rw [hws12]; exact Hb.mk (Hb.h (by repeat (first | assumption | exact Hb.newY _ _ | refine Hb.alloc ?_ | refine Hb.drew ?_ | refine Hb.ext (by assumption) ?_ | exact Hb.setSameL (by first | omega | (simp only [size_alloc, size_setB, size_drew]; omega)) | exact Hb.setSame (by assumption) | refine Hb.set (by first | omega | (simp only [size_alloc, size_setB, size_drew]; omega)) ?_ )))
        have hb8s12 : Hb ws12 b8 (.cells (ic .u8 (ybTo ks y t)) 25 (0, 0)) := by rw [hws12]; exact Hb.mk (Hb.h (by repeat (first | assumption | exact Hb.newY _ _ | refine Hb.alloc ?_ | refine Hb.drew ?_ | refine Hb.ext (by assumption) ?_ | exact Hb.setSameL (by first | omega | (simp only [size_alloc, size_setB, size_drew]; omega)) | exact Hb.setSame (by assumption) | refine Hb.set (by first | omega | (simp only [size_alloc, size_setB, size_drew]; omega)) ?_ )))
        have hb7s12 : Hb ws12 b7 (.cells (encYA x3).toArray 104 (0, 0)) := by rw [hws12]; exact Hb.mk (Hb.h (by repeat (first | assumption | exact Hb.newY _ _ | refine Hb.alloc ?_ | refine Hb.drew ?_ | refine Hb.ext (by assumption) ?_ | exact Hb.setSameL (by first | omega | (simp only [size_alloc, size_setB, size_drew]; omega)) | exact Hb.setSame (by assumption) | refine Hb.set (by first | omega | (simp only [size_alloc, size_setB, size_drew]; omega)) ?_ )))
        clear hws12
        have hb3ls12 := hb3s12.lt
        have hb8ls12 := hb8s12.lt
        have hb7ls12 := hb7s12.lt
        have hEzs12 : Ext w0 ws12 := ext_keep hEz12 hKs12 (fun b e => e ▸ hlow)
        have htxs12 := htx0.ext hEzs12
        have hxrs12 := (AcR.ext hxr12 (Ext.refl _)).keep hKOs12
        have hnbs12 := hxrs12.bal
        have hnns12 := hxrs12.nonce
        have hszSs12 := encYS_sz (x := { x1 with applied := x1.applied + 1 }) hol12 hml12 (by show EvB x1.env; rw [hSS12.rel.env]; exact hSS12.rel.evb)
        refine W_region rfl ?_
        refine WO_p (PS_move_ptr rfl) ?_
        refine WO_p (PS_fieldAddr 42 Hvac.runUnderlying35 rfl Hvac.sizeOf26 rfl rfl) ?_
        refine WO_load (.int _ _) Hvac.isAgg26 rfl (Hb.h (by repeat (first | assumption | exact Hb.newY _ _ | refine Hb.alloc ?_ | refine Hb.drew ?_ | refine Hb.ext (by assumption) ?_ | exact Hb.setSameL (by first | omega | (simp only [size_alloc, size_setB, size_drew]; omega)) | exact Hb.setSame (by assumption) | refine Hb.set (by first | omega | (simp only [size_alloc, size_setB, size_drew]; omega)) ?_ ))) (Ce.h (by first | assumption | exact ⟨rfl⟩)) ?_
        refine WO_call Hvac.call19 (by rfl) (Ret.mono (nNum_spec (OmB.ext hO (by repeat (first | assumption | exact Ext.refl _ | refine Ext.alloc ?_ _ | refine Ext.drew ?_ | refine Ext.setB ?_ (by first | omega | (simp only [size_alloc, size_setB, size_drew]; omega)) _ | exact Ext.trans (by assumption) (by assumption) | refine Ext.trans ?_ (by assumption)))) ⟨by omega, by omega⟩) ?_)
        rintro _ w19_8 ⟨hE19_8, s13, rfl, hN13, hs13⟩
        have hz19_8 := hE19_8.1
        try simp only [size_alloc, size_setB, size_drew] at hz19_8
        try simp only [Int.toNat_natCast, toNat_lit] at hN13 hs13
        refine WO_p (PS_nilCheck rfl) ?_
        refine WO_p (PS_fieldAddr 14 Hvac.runUnderlying99 rfl Hvac.sizeOf92 rfl rfl) ?_
        refine WO_store1 Hvac.sizeOf92 rfl (v := (.slice _ _ _)) rfl (Hb.h (by repeat (first | assumption | exact Hb.newY _ _ | refine Hb.alloc ?_ | refine Hb.drew ?_ | refine Hb.ext (by assumption) ?_ | exact Hb.setSameL (by first | omega | (simp only [size_alloc, size_setB, size_drew]; omega)) | exact Hb.setSame (by assumption) | refine Hb.set (by first | omega | (simp only [size_alloc, size_setB, size_drew]; omega)) ?_ ))) rfl (by first | omega | assumption | rfl | decide | exact Nat.le_refl _ | (simp only [size_ic, Value.cells]; omega) | (simp [encWs]; done) | (simp; omega) | simp | exact encYA_sz (by assumption) | exact encYT_sz (by assumption) | exact encYM_sz (by assumption)) rfl ?_
        refine WO_nil ?_
        refine thn_normal ?_
        refine W_seq ?_
        refine W_gen fun ws13 hws13 => ?_
        have hTs13 : SStep ws12 ws13 C ({ x1 with applied := x1.applied + 1, limit := s13 }) ({ y with made := ybMd ks y t, applied := y.applied + 1, limit := t.gas.toNat }) := SStep.put2 hws13 hSSs12 (by repeat (first | assumption | exact Ext.refl _ | refine Ext.alloc ?_ _ | refine Ext.drew ?_ | refine Ext.setB ?_ (by first | omega | (simp only [size_alloc, size_setB, size_drew]; omega)) _ | refine Ext.trans ?_ (by assumption))) (encYS_14 _ s13) ({ StRel.ext hSSs12.rel (by repeat (first | assumption | exact Ext.refl _ | refine Ext.alloc ?_ _ | refine Ext.drew ?_ | refine Ext.setB ?_ (by first | omega | (simp only [size_alloc, size_setB, size_drew]; omega)) _ | refine Ext.trans ?_ (by assumption))) with limit := NN.ext hN13 (by repeat (first | assumption | exact Ext.refl _ | refine Ext.alloc ?_ _ | refine Ext.drew ?_ | refine Ext.setB ?_ (by first | omega | (simp only [size_alloc, size_setB, size_drew]; omega)) _ | refine Ext.trans ?_ (by assumption))) })
        have hKs13 := hTs13.keep
        have hKOs13 := hTs13.ko
        replace hO := hO.keep hKOs13
        have hSSs13 := hTs13.ss
        have hSbs13 := hSSs13.blk
        have hSls13 := hSbs13.lt
        have hzs13 := hKs13.sz
        have hzss13 := encYS_size ({ x1 with applied := x1.applied + 1, limit := s13 })
        have hb3s13 : Hb ws13 b3 (.cells (encTx t).toArray 35 (0, 0)) := by rw [hws13]; exact Hb.mk (Hb.h (by repeat (first | assumption | exact Hb.newY _ _ | refine Hb.alloc ?_ | refine Hb.drew ?_ | refine Hb.ext (by assumption) ?_ | exact Hb.setSameL (by first | omega | (simp only [size_alloc, size_setB, size_drew]; omega)) | exact Hb.setSame (by assumption) | refine Hb.set (by first | omega | (simp only [size_alloc, size_setB, size_drew]; omega)) ?_ )))
        have hb8s13 : Hb ws13 b8 (.cells (ic .u8 (ybTo ks y t)) 25 (0, 0)) := by rw [hws13]; exact Hb.mk (Hb.h (by repeat (first | assumption | exact Hb.newY _ _ | refine Hb.alloc ?_ | refine Hb.drew ?_ | refine Hb.ext (by assumption) ?_ | exact Hb.setSameL (by first | omega | (simp only [size_alloc, size_setB, size_drew]; omega)) | exact Hb.setSame (by assumption) | refine Hb.set (by first | omega | (simp only [size_alloc, size_setB, size_drew]; omega)) ?_ )))
        have hb7s13 : Hb ws13 b7 (.cells (encYA x3).toArray 104 (0, 0)) := by rw [hws13]; exact Hb.mk (Hb.h (by repeat (first | assumption | exact Hb.newY _ _ | refine Hb.alloc ?_ | refine Hb.drew ?_ | refine Hb.ext (by assumption) ?_ | exact Hb.setSameL (by first | omega | (simp only [size_alloc, size_setB, size_drew]; omega)) | exact Hb.setSame (by assumption) | refine Hb.set (by first | omega | (simp only [size_alloc, size_setB, size_drew]; omega)) ?_ )))
        clear hws13
        have hb3ls13 := hb3s13.lt
        have hb8ls13 := hb8s13.lt
        have hb7ls13 := hb7s13.lt
        have hEzs13 : Ext w0 ws13 := ext_keep hEzs12 hKs13 (fun b e => e ▸ hlow)
        have htxs13 := htx0.ext hEzs13
        have hxrs13 := (AcR.ext hxrs12 (Ext.refl _)).keep hKOs13
        have hnbs13 := hxrs13.bal
        have hnns13 := hxrs13.nonce
        have hszSs13 := encYS_sz (x := { x1 with applied := x1.applied + 1, limit := s13 }) hol12 hml12 (by show EvB x1.env; rw [hSS12.rel.env]; exact hSS12.rel.evb)
        have hN13b : NN ws13 s13 t.gas.toNat := hSSs13.rel.limit
        have hk14a : Ce (encYS ({ x1 with applied := x1.applied + 1, limit := s13 })).toArray (0 + 14) (.slice s13.1 s13.2.1 s13.2.2) := ⟨rfl⟩
        have hzi : sz (yintr t) ≤ 8 := sz64 (by have := hV.ig; have := hV.ga; omega)
        refine W_drawE [false, false, false, false, false, false, true, false, false, false, false] hmix (by kernel_rfl) rfl ?_
        refine WH_p (PS_move_ptr rfl) rfl ?_
        refine WH_p (PS_move_ptr rfl) rfl ?_
        refine WH_p (PS_nilCheck rfl) rfl ?_
        refine WH_p (PS_fieldAddr 14 Hvac.runUnderlying99 rfl Hvac.sizeOf92 rfl rfl) rfl ?_
        refine WH_load (.slice _ _ _) Hvac.isAgg92 rfl (Hb.h (by repeat (first | assumption | exact Hb.newY _ _ | refine Hb.alloc ?_ | refine Hb.drew ?_ | refine Hb.ext (by assumption) ?_ | exact Hb.setSameL (by first | omega | (simp only [size_alloc, size_setB, size_drew]; omega)) | exact Hb.setSame (by assumption) | refine Hb.set (by first | omega | (simp only [size_alloc, size_setB, size_drew]; omega)) ?_ ))) (Ce.h (by first | assumption | exact ⟨rfl⟩)) ?_
        refine WH_loadA _ Hvac.isAgg35 Hvac.sizeOf35 rfl (Hb.h (by repeat (first | assumption | exact Hb.newY _ _ | refine Hb.alloc ?_ | refine Hb.drew ?_ | refine Hb.ext (by assumption) ?_ | exact Hb.setSameL (by first | omega | (simp only [size_alloc, size_setB, size_drew]; omega)) | exact Hb.setSame (by assumption) | refine Hb.set (by first | omega | (simp only [size_alloc, size_setB, size_drew]; omega)) ?_ ))) (by first | omega | assumption | rfl | decide | exact Nat.le_refl _ | (simp only [size_ic, Value.cells]; omega) | (simp [encWs]; done) | (simp; omega) | simp | exact encYA_sz (by assumption) | exact encYT_sz (by assumption) | exact encYM_sz (by assumption)) (Xt.h (by first | assumption | exact Xt.whole rfl rfl | exact Xt.whole rfl (by assumption) | exact Xt.whole rfl (by simp only [size_ic, Value.cells]; omega) | exact ⟨rfl⟩)) ?_
        refine WH_call Hvac.call21 (by rfl) (Ret.mono (yIntrinsic_spec _ (OmB.ext hO (by repeat (first | assumption | exact Ext.refl _ | refine Ext.alloc ?_ _ | refine Ext.drew ?_ | refine Ext.setB ?_ (by first | omega | (simp only [size_alloc, size_setB, size_drew]; omega)) _ | exact Ext.trans (by assumption) (by assumption) | refine Ext.trans ?_ (by assumption)))) t (htxs13.ext (by repeat (first | assumption | exact Ext.refl _ | refine Ext.alloc ?_ _ | refine Ext.drew ?_ | refine Ext.setB ?_ (by first | omega | (simp only [size_alloc, size_setB, size_drew]; omega)) _ | exact Ext.trans (by assumption) (by assumption) | refine Ext.trans ?_ (by assumption)))) hV.db hV.lk) ?_)
        rintro _ w21_9 ⟨hE21_9, s21, rfl, hN21⟩
        refine ⟨fun _ => (by repeat (first | assumption | exact Ext.refl _ | refine Ext.alloc ?_ _ | refine Ext.drew ?_ | refine Ext.setB ?_ (by first | omega | (simp only [size_alloc, size_setB, size_drew]; omega)) _ | exact Ext.trans (by assumption) (by assumption) | refine Ext.trans ?_ (by assumption))), ?_⟩
        have hz21_9 := hE21_9.1
        try simp only [size_alloc, size_setB, size_drew] at hz21_9
        refine WH_call Hvac.call20 (by rfl) (Ret.mono (less_spec _ (OmB.ext hO (by repeat (first | assumption | exact Ext.refl _ | refine Ext.alloc ?_ _ | refine Ext.drew ?_ | refine Ext.setB ?_ (by first | omega | (simp only [size_alloc, size_setB, size_drew]; omega)) _ | exact Ext.trans (by assumption) (by assumption) | refine Ext.trans ?_ (by assumption)))) _ _ _ _ (by first | exact NN.nil _ | assumption | exact NN.ext (by assumption) (by repeat (first | assumption | exact Ext.refl _ | refine Ext.alloc ?_ _ | refine Ext.drew ?_ | refine Ext.setB ?_ (by first | omega | (simp only [size_alloc, size_setB, size_drew]; omega)) _ | exact Ext.trans (by assumption) (by assumption) | refine Ext.trans ?_ (by assumption)))) (by first | assumption | omega | (rw [sz_zero]; omega)) _ _ _ _ (by first | exact NN.nil _ | assumption | exact NN.ext (by assumption) (by repeat (first | assumption | exact Ext.refl _ | refine Ext.alloc ?_ _ | refine Ext.drew ?_ | refine Ext.setB ?_ (by first | omega | (simp only [size_alloc, size_setB, size_drew]; omega)) _ | exact Ext.trans (by assumption) (by assumption) | refine Ext.trans ?_ (by assumption)))) (by first | assumption | omega | (rw [sz_zero]; omega))) ?_)
        rintro _ w20_10 ⟨hE20_10, s14, rfl, hN14⟩
        refine ⟨(fun h => by cases h), ?_⟩
        have hz20_10 := hE20_10.1
        try simp only [size_alloc, size_setB, size_drew] at hz20_10
        refine WH_p (PS_nilCheck rfl) rfl ?_
        refine WH_p (PS_fieldAddr 15 Hvac.runUnderlying99 rfl Hvac.sizeOf92 rfl rfl) rfl ?_
        refine WH_store1 Hvac.sizeOf92 rfl (v := (.slice _ _ _)) rfl (Hb.h (by repeat (first | assumption | exact Hb.newY _ _ | refine Hb.alloc ?_ | refine Hb.drew ?_ | refine Hb.ext (by assumption) ?_ | exact Hb.setSameL (by first | omega | (simp only [size_alloc, size_setB, size_drew]; omega)) | exact Hb.setSame (by assumption) | refine Hb.set (by first | omega | (simp only [size_alloc, size_setB, size_drew]; omega)) ?_ ))) rfl (by first | omega | assumption | rfl | decide | exact Nat.le_refl _ | (simp only [size_ic, Value.cells]; omega) | (simp [encWs]; done) | (simp; omega) | simp | exact encYA_sz (by assumption) | exact encYT_sz (by assumption) | exact encYM_sz (by assumption)) rfl (fun h => by cases h) ?_
        refine WH_nil ?_
        refine thn_normal ?_
        refine W_seq ?_
        refine W_gen fun ws14 hws14 => ?_
        have hTs14 : SStep ws13 ws14 C ({ x1 with applied := x1.applied + 1, limit := s13, txGas := s14 }) ({ y with made := ybMd ks y t, applied := y.applied + 1, limit := t.gas.toNat, txGas := t.gas.toNat - yintr t }) := SStep.put2 hws14 hSSs13 (by repeat (first | assumption | exact Ext.refl _ | refine Ext.alloc ?_ _ | refine Ext.drew ?_ | refine Ext.setB ?_ (by first | omega | (simp only [size_alloc, size_setB, size_drew]; omega)) _ | refine Ext.trans ?_ (by assumption))) (encYS_15 _ s14) ({ StRel.ext hSSs13.rel (by repeat (first | assumption | exact Ext.refl _ | refine Ext.alloc ?_ _ | refine Ext.drew ?_ | refine Ext.setB ?_ (by first | omega | (simp only [size_alloc, size_setB, size_drew]; omega)) _ | refine Ext.trans ?_ (by assumption))) with txGas := NN.ext hN14 (by repeat (first | assumption | exact Ext.refl _ | refine Ext.alloc ?_ _ | refine Ext.drew ?_ | refine Ext.setB ?_ (by first | omega | (simp only [size_alloc, size_setB, size_drew]; omega)) _ | refine Ext.trans ?_ (by assumption))) })
        have hKs14 := hTs14.keep
        have hKOs14 := hTs14.ko
        replace hO := hO.keep hKOs14
        have hSSs14 := hTs14.ss
        have hSbs14 := hSSs14.blk
        have hSls14 := hSbs14.lt
        have hzs14 := hKs14.sz
        have hzss14 := encYS_size ({ x1 with applied := x1.applied + 1, limit := s13, txGas := s14 })
        have hb3s14 : Hb ws14 b3 (.cells (encTx t).toArray 35 (0, 0)) := by rw [hws14]; exact Hb.mk (Hb.h (by repeat (first | assumption | exact Hb.newY _ _ | refine Hb.alloc ?_ | refine Hb.drew ?_ | refine Hb.ext (by assumption) ?_ | exact Hb.setSameL (by first | omega | (simp only [size_alloc, size_setB, size_drew]; omega)) | exact Hb.setSame (by assumption) | refine Hb.set (by first | omega | (simp only [size_alloc, size_setB, size_drew]; omega)) ?_ )))
        have hb8s14 : Hb ws14 b8 (.cells (ic .u8 (ybTo ks y t)) 25 (0, 0)) := by rw [hws14]; exact Hb.mk (Hb.h (by repeat (first | assumption | exact Hb.newY _ _ | refine Hb.alloc ?_ | refine Hb.drew ?_ | refine Hb.ext (by assumption) ?_ | exact Hb.setSameL (by first | omega | (simp only [size_alloc, size_setB, size_drew]; omega)) | exact Hb.setSame (by assumption) | refine Hb.set (by first | omega | (simp only [size_alloc, size_setB, size_drew]; omega)) ?_ )))
        have hb7s14 : Hb ws14 b7 (.cells (encYA x3).toArray 104 (0, 0)) := by rw [hws14]; exact Hb.mk (Hb.h (by repeat (first | assumption | exact Hb.newY _ _ | refine Hb.alloc ?_ | refine Hb.drew ?_ | refine Hb.ext (by assumption) ?_ | exact Hb.setSameL (by first | omega | (simp only [size_alloc, size_setB, size_drew]; omega)) | exact Hb.setSame (by assumption) | refine Hb.set (by first | omega | (simp only [size_alloc, size_setB, size_drew]; omega)) ?_ )))
        clear hws14
        have hb3ls14 := hb3s14.lt
        have hb8ls14 := hb8s14.lt
        have hb7ls14 := hb7s14.lt
        have hEzs14 : Ext w0 ws14 := ext_keep hEzs13 hKs14 (fun b e => e ▸ hlow)
        have htxs14 := htx0.ext hEzs14
        have hxrs14 := (AcR.ext hxrs13 (Ext.refl _)).keep hKOs14
        have hnbs14 := hxrs14.bal
        have hnns14 := hxrs14.nonce
        have hszSs14 := encYS_sz (x := { x1 with applied := x1.applied + 1, limit := s13, txGas := s14 }) hol12 hml12 (by show EvB x1.env; rw [hSS12.rel.env]; exact hSS12.rel.evb)
        have hzbf : sz (bvY y.env.bfee) ≤ 32 := by have := sz_le (bv_lt hS.rel.evb.bfee.2); rwa [hS.rel.evb.bfee.1] at this
        refine W_region rfl ?_
        refine WO_p (PS_move_ptr rfl) ?_
        refine WO_p (PS_move_ptr rfl) ?_
        refine WO_loadA _ Hvac.isAgg35 Hvac.sizeOf35 rfl (Hb.h (by repeat (first | assumption | exact Hb.newY _ _ | refine Hb.alloc ?_ | refine Hb.drew ?_ | refine Hb.ext (by assumption) ?_ | exact Hb.setSameL (by first | omega | (simp only [size_alloc, size_setB, size_drew]; omega)) | exact Hb.setSame (by assumption) | refine Hb.set (by first | omega | (simp only [size_alloc, size_setB, size_drew]; omega)) ?_ ))) (by first | omega | assumption | rfl | decide | exact Nat.le_refl _ | (simp only [size_ic, Value.cells]; omega) | (simp [encWs]; done) | (simp; omega) | simp | exact encYA_sz (by assumption) | exact encYT_sz (by assumption) | exact encYM_sz (by assumption)) (Xt.h (by first | assumption | exact Xt.whole rfl rfl | exact Xt.whole rfl (by assumption) | exact Xt.whole rfl (by simp only [size_ic, Value.cells]; omega) | exact ⟨rfl⟩)) ?_
        refine WO_call Hvac.call22 (by rfl) (Ret.mono (yPrice_spec _ (OmB.ext hO (by repeat (first | assumption | exact Ext.refl _ | refine Ext.alloc ?_ _ | refine Ext.drew ?_ | refine Ext.setB ?_ (by first | omega | (simp only [size_alloc, size_setB, size_drew]; omega)) _ | exact Ext.trans (by assumption) (by assumption) | refine Ext.trans ?_ (by assumption)))) C _ _ (YSS.ext hSSs14 (by repeat (first | assumption | exact Ext.refl _ | refine Ext.alloc ?_ _ | refine Ext.drew ?_ | refine Ext.setB ?_ (by first | omega | (simp only [size_alloc, size_setB, size_drew]; omega)) _ | exact Ext.trans (by assumption) (by assumption) | refine Ext.trans ?_ (by assumption)))) t (htxs14.ext (by repeat (first | assumption | exact Ext.refl _ | refine Ext.alloc ?_ _ | refine Ext.drew ?_ | refine Ext.setB ?_ (by first | omega | (simp only [size_alloc, size_setB, size_drew]; omega)) _ | exact Ext.trans (by assumption) (by assumption) | refine Ext.trans ?_ (by assumption)))) hzbf) ?_)
        rintro _ w22_11 ⟨hE22_11, s15, rfl, hN15⟩
        have hz22_11 := hE22_11.1
        try simp only [size_alloc, size_setB, size_drew] at hz22_11
        refine WO_p (PS_nilCheck rfl) ?_
        refine WO_p (PS_fieldAddr 17 Hvac.runUnderlying99 rfl Hvac.sizeOf92 rfl rfl) ?_
        refine WO_store1 Hvac.sizeOf92 rfl (v := (.slice _ _ _)) rfl (Hb.h (by repeat (first | assumption | exact Hb.newY _ _ | refine Hb.alloc ?_ | refine Hb.drew ?_ | refine Hb.ext (by assumption) ?_ | exact Hb.setSameL (by first | omega | (simp only [size_alloc, size_setB, size_drew]; omega)) | exact Hb.setSame (by assumption) | refine Hb.set (by first | omega | (simp only [size_alloc, size_setB, size_drew]; omega)) ?_ ))) rfl (by first | omega | assumption | rfl | decide | exact Nat.le_refl _ | (simp only [size_ic, Value.cells]; omega) | (simp [encWs]; done) | (simp; omega) | simp | exact encYA_sz (by assumption) | exact encYT_sz (by assumption) | exact encYM_sz (by assumption)) rfl ?_
        refine WO_nil ?_
        refine thn_normal ?_
        refine W_seq ?_
        refine W_gen fun ws15 hws15 => ?_
        have hTs15 : SStep ws14 ws15 C ({ x1 with applied := x1.applied + 1, limit := s13, txGas := s14, price := s15 }) ({ y with made := ybMd ks y t, applied := y.applied + 1, limit := t.gas.toNat, txGas := t.gas.toNat - yintr t, price := yprice (bvY y.env.bfee) t }) := SStep.put2 hws15 hSSs14 (by repeat (first | assumption | exact Ext.refl _ | refine Ext.alloc ?_ _ | refine Ext.drew ?_ | refine Ext.setB ?_ (by first | omega | (simp only [size_alloc, size_setB, size_drew]; omega)) _ | refine Ext.trans ?_ (by assumption))) (encYS_17 _ s15) ({ StRel.ext hSSs14.rel (by repeat (first | assumption | exact Ext.refl _ | refine Ext.alloc ?_ _ | refine Ext.drew ?_ | refine Ext.setB ?_ (by first | omega | (simp only [size_alloc, size_setB, size_drew]; omega)) _ | refine Ext.trans ?_ (by assumption))) with price := NN.ext hN15 (by repeat (first | assumption | exact Ext.refl _ | refine Ext.alloc ?_ _ | refine Ext.drew ?_ | refine Ext.setB ?_ (by first | omega | (simp only [size_alloc, size_setB, size_drew]; omega)) _ | refine Ext.trans ?_ (by assumption))) })
        have hKs15 := hTs15.keep
        have hKOs15 := hTs15.ko
        replace hO := hO.keep hKOs15
        have hSSs15 := hTs15.ss
        have hSbs15 := hSSs15.blk
        have hSls15 := hSbs15.lt
        have hzs15 := hKs15.sz
        have hzss15 := encYS_size ({ x1 with applied := x1.applied + 1, limit := s13, txGas := s14, price := s15 })
        have hb3s15 : Hb ws15 b3 (.cells (encTx t).toArray 35 (0, 0)) := by rw [hws15]; exact Hb.mk (Hb.h (by repeat (first | assumption | exact Hb.newY _ _ | refine Hb.alloc ?_ | refine Hb.drew ?_ | refine Hb.ext (by assumption) ?_ | exact Hb.setSameL (by first | omega | (simp only [size_alloc, size_setB, size_drew]; omega)) | exact Hb.setSame (by assumption) | refine Hb.set (by first | omega | (simp only [size_alloc, size_setB, size_drew]; omega)) ?_ )))
        have hb8s15 : Hb ws15 b8 (.cells (ic .u8 (ybTo ks y t)) 25 (0, 0)) := by rw [hws15]; exact Hb.mk (Hb.h (by repeat (first | assumption | exact Hb.newY _ _ | refine Hb.alloc ?_ | refine Hb.drew ?_ | refine Hb.ext (by assumption) ?_ | exact Hb.setSameL (by first | omega | (simp only [size_alloc, size_setB, size_drew]; omega)) | exact Hb.setSame (by assumption) | refine Hb.set (by first | omega | (simp only [size_alloc, size_setB, size_drew]; omega)) ?_ )))
        have hb7s15 : Hb ws15 b7 (.cells (encYA x3).toArray 104 (0, 0)) := by rw [hws15]; exact Hb.mk (Hb.h (by repeat (first | assumption | exact Hb.newY _ _ | refine Hb.alloc ?_ | refine Hb.drew ?_ | refine Hb.ext (by assumption) ?_ | exact Hb.setSameL (by first | omega | (simp only [size_alloc, size_setB, size_drew]; omega)) | exact Hb.setSame (by assumption) | refine Hb.set (by first | omega | (simp only [size_alloc, size_setB, size_drew]; omega)) ?_ )))
        clear hws15
        have hb3ls15 := hb3s15.lt
        have hb8ls15 := hb8s15.lt
        have hb7ls15 := hb7s15.lt
        have hEzs15 : Ext w0 ws15 := ext_keep hEzs14 hKs15 (fun b e => e ▸ hlow)
        have htxs15 := htx0.ext hEzs15
        have hxrs15 := (AcR.ext hxrs14 (Ext.refl _)).keep hKOs15
        have hnbs15 := hxrs15.bal
        have hnns15 := hxrs15.nonce
        have hszSs15 := encYS_sz (x := { x1 with applied := x1.applied + 1, limit := s13, txGas := s14, price := s15 }) hol12 hml12 (by show EvB x1.env; rw [hSS12.rel.env]; exact hSS12.rel.evb)
        refine W_region rfl ?_
        refine WO_p (PS_move_ptr rfl) ?_
        refine WO_p (PS_fieldAddr 0 Hvac.runUnderlying35 rfl Hvac.sizeOf25 rfl rfl) ?_
        refine WO_loadA _ Hvac.isAgg25 Hvac.sizeOf25 rfl (Hb.h (by repeat (first | assumption | exact Hb.newY _ _ | refine Hb.alloc ?_ | refine Hb.drew ?_ | refine Hb.ext (by assumption) ?_ | exact Hb.setSameL (by first | omega | (simp only [size_alloc, size_setB, size_drew]; omega)) | exact Hb.setSame (by assumption) | refine Hb.set (by first | omega | (simp only [size_alloc, size_setB, size_drew]; omega)) ?_ ))) (by first | omega | assumption | rfl | decide | exact Nat.le_refl _ | (simp only [size_ic, Value.cells]; omega) | (simp [encWs]; done) | (simp; omega) | simp | exact encYA_sz (by assumption) | exact encYT_sz (by assumption) | exact encYM_sz (by assumption)) (Xt.h (by first | assumption | exact Xt.whole rfl rfl | exact Xt.whole rfl (by assumption) | exact Xt.whole rfl (by simp only [size_ic, Value.cells]; omega) | exact ⟨rfl⟩)) ?_
        refine WO_p (PS_nilCheck rfl) ?_
        refine WO_p (PS_fieldAddr 19 Hvac.runUnderlying99 rfl Hvac.sizeOf25 rfl rfl) ?_
        refine WO_store Hvac.sizeOf25 rfl (v := .agg (ic .u8 t.fr)) rfl (Hb.h (by repeat (first | assumption | exact Hb.newY _ _ | refine Hb.alloc ?_ | refine Hb.drew ?_ | refine Hb.ext (by assumption) ?_ | exact Hb.setSameL (by first | omega | (simp only [size_alloc, size_setB, size_drew]; omega)) | exact Hb.setSame (by assumption) | refine Hb.set (by first | omega | (simp only [size_alloc, size_setB, size_drew]; omega)) ?_ ))) (by show (ic .u8 t.fr).size = 20; rw [size_ic]; exact hAl) (by omega) (by intro u hu; exact oneCell_ic u hu) ?_
        refine WO_nil ?_
        refine thn_normal ?_
        refine W_seqJ (fun ρ w' => ∃ (x1 : YSt), Fr [(3, .pointer (some ⟨b3, 0, none⟩)), (5, .pointer (some ⟨C, 0, none⟩)), (7, .pointer (some ⟨b7, 0, none⟩)), (8, .pointer (some ⟨b8, 0, none⟩))] ρ ∧ SStep w w' C x1 ({ yb1 ks y t with start := [] }) ∧ x1.frames = (none, 0, 0) ∧ x1.now.logs = x.now.logs ∧ x1.start = (none, 0, 0) ∧ Hb w' b3 (.cells (encTx t).toArray 35 (0, 0)) ∧ Hb w' b8 (.cells (ic .u8 (ybTo ks y t)) 25 (0, 0)) ∧ Hb w' b7 (.cells (encYA x3).toArray 104 (0, 0)) ∧ AcR w' x3 (yacct y.now.accts t.fr)) ?_ ?_
        · skip
          refine W_gen fun ws16 hws16 => ?_
          have hTs16 : SStep ws15 ws16 C ({ x1 with applied := x1.applied + 1, limit := s13, txGas := s14, price := s15, origin := t.fr }) (yb1 ks y t) := SStep.put2 hws16 hSSs15 (by repeat (first | assumption | exact Ext.refl _ | refine Ext.alloc ?_ _ | refine Ext.drew ?_ | refine Ext.setB ?_ (by first | omega | (simp only [size_alloc, size_setB, size_drew]; omega)) _ | refine Ext.trans ?_ (by assumption))) (encYS_os hol12 hAl) ({ StRel.ext hSSs15.rel (by repeat (first | assumption | exact Ext.refl _ | refine Ext.alloc ?_ _ | refine Ext.drew ?_ | refine Ext.setB ?_ (by first | omega | (simp only [size_alloc, size_setB, size_drew]; omega)) _ | refine Ext.trans ?_ (by assumption))) with origin := rfl, ob := htx.fr })
          have hKs16 := hTs16.keep
          have hKOs16 := hTs16.ko
          replace hO := hO.keep hKOs16
          have hSSs16 := hTs16.ss
          have hSbs16 := hSSs16.blk
          have hSls16 := hSbs16.lt
          have hzs16 := hKs16.sz
          have hzss16 := encYS_size ({ x1 with applied := x1.applied + 1, limit := s13, txGas := s14, price := s15, origin := t.fr })
          have hb3s16 : Hb ws16 b3 (.cells (encTx t).toArray 35 (0, 0)) := by rw [hws16]; exact Hb.mk (Hb.h (by repeat (first | assumption | exact Hb.newY _ _ | refine Hb.alloc ?_ | refine Hb.drew ?_ | refine Hb.ext (by assumption) ?_ | exact Hb.setSameL (by first | omega | (simp only [size_alloc, size_setB, size_drew]; omega)) | exact Hb.setSame (by assumption) | refine Hb.set (by first | omega | (simp only [size_alloc, size_setB, size_drew]; omega)) ?_ )))
          have hb8s16 : Hb ws16 b8 (.cells (ic .u8 (ybTo ks y t)) 25 (0, 0)) := by rw [hws16]; exact Hb.mk (Hb.h (by repeat (first | assumption | exact Hb.newY _ _ | refine Hb.alloc ?_ | refine Hb.drew ?_ | refine Hb.ext (by assumption) ?_ | exact Hb.setSameL (by first | omega | (simp only [size_alloc, size_setB, size_drew]; omega)) | exact Hb.setSame (by assumption) | refine Hb.set (by first | omega | (simp only [size_alloc, size_setB, size_drew]; omega)) ?_ )))
          have hb7s16 : Hb ws16 b7 (.cells (encYA x3).toArray 104 (0, 0)) := by rw [hws16]; exact Hb.mk (Hb.h (by repeat (first | assumption | exact Hb.newY _ _ | refine Hb.alloc ?_ | refine Hb.drew ?_ | refine Hb.ext (by assumption) ?_ | exact Hb.setSameL (by first | omega | (simp only [size_alloc, size_setB, size_drew]; omega)) | exact Hb.setSame (by assumption) | refine Hb.set (by first | omega | (simp only [size_alloc, size_setB, size_drew]; omega)) ?_ )))
          clear hws16
          have hb3ls16 := hb3s16.lt
          have hb8ls16 := hb8s16.lt
          have hb7ls16 := hb7s16.lt
          have hEzs16 : Ext w0 ws16 := ext_keep hEzs15 hKs16 (fun b e => e ▸ hlow)
          have htxs16 := htx0.ext hEzs16
          have hxrs16 := (AcR.ext hxrs15 (Ext.refl _)).keep hKOs16
          have hnbs16 := hxrs16.bal
          have hnns16 := hxrs16.nonce
          have hszSs16 := encYS_sz (x := { x1 with applied := x1.applied + 1, limit := s13, txGas := s14, price := s15, origin := t.fr }) hAl hml12 (by show EvB x1.env; rw [hSS12.rel.env]; exact hSS12.rel.evb)
          refine W_region rfl ?_
          refine WO_p (PS_move_ptr rfl) ?_
          refine WO_p (PS_nilCheck rfl) ?_
          refine WO_p (PS_fieldAddr 8 Hvac.runUnderlying99 rfl Hvac.sizeOf96 rfl rfl) ?_
          refine WO_store1 Hvac.sizeOf96 rfl (v := (.slice _ _ _)) rfl (Hb.h (by repeat (first | assumption | exact Hb.newY _ _ | refine Hb.alloc ?_ | refine Hb.drew ?_ | refine Hb.ext (by assumption) ?_ | exact Hb.setSameL (by first | omega | (simp only [size_alloc, size_setB, size_drew]; omega)) | exact Hb.setSame (by assumption) | refine Hb.set (by first | omega | (simp only [size_alloc, size_setB, size_drew]; omega)) ?_ ))) rfl (by first | omega | assumption | rfl | decide | exact Nat.le_refl _ | (simp only [size_ic, Value.cells]; omega) | (simp [encWs]; done) | (simp; omega) | simp | exact encYA_sz (by assumption) | exact encYT_sz (by assumption) | exact encYM_sz (by assumption)) rfl ?_
          refine WO_nil ?_
          refine thn_normal ?_
          exact ⟨_, ⟨rfl, rfl, rfl, rfl, trivial⟩, hT12.trans (hTs12.trans (hTs13.trans (hTs14.trans (hTs15.trans (hTs16.trans (SStep.put2 (x' := { x1 with applied := x1.applied + 1, limit := s13, txGas := s14, price := s15, origin := t.fr, start := (none, 0, 0) }) rfl hSSs16 (by repeat (first | assumption | exact Ext.refl _ | refine Ext.alloc ?_ _ | refine Ext.drew ?_ | refine Ext.setB ?_ (by first | omega | (simp only [size_alloc, size_setB, size_drew]; omega)) _ | refine Ext.trans ?_ (by assumption))) (encYS_8 _ (none, 0, 0)) { StRel.ext hSSs16.rel (by repeat (first | assumption | exact Ext.refl _ | refine Ext.alloc ?_ _ | refine Ext.drew ?_ | refine Ext.setB ?_ (by first | omega | (simp only [size_alloc, size_setB, size_drew]; omega)) _ | refine Ext.trans ?_ (by assumption))) with start := TpsR.nil _ _ })))))), hxf12, hlg12, rfl, Hb.mk (Hb.h (by repeat (first | assumption | exact Hb.newY _ _ | refine Hb.alloc ?_ | refine Hb.drew ?_ | refine Hb.ext (by assumption) ?_ | exact Hb.setSameL (by first | omega | (simp only [size_alloc, size_setB, size_drew]; omega)) | exact Hb.setSame (by assumption) | refine Hb.set (by first | omega | (simp only [size_alloc, size_setB, size_drew]; omega)) ?_ ))), Hb.mk (Hb.h (by repeat (first | assumption | exact Hb.newY _ _ | refine Hb.alloc ?_ | refine Hb.drew ?_ | refine Hb.ext (by assumption) ?_ | exact Hb.setSameL (by first | omega | (simp only [size_alloc, size_setB, size_drew]; omega)) | exact Hb.setSame (by assumption) | refine Hb.set (by first | omega | (simp only [size_alloc, size_setB, size_drew]; omega)) ?_ ))), Hb.mk (Hb.h (by repeat (first | assumption | exact Hb.newY _ _ | refine Hb.alloc ?_ | refine Hb.drew ?_ | refine Hb.ext (by assumption) ?_ | exact Hb.setSameL (by first | omega | (simp only [size_alloc, size_setB, size_drew]; omega)) | exact Hb.setSame (by assumption) | refine Hb.set (by first | omega | (simp only [size_alloc, size_setB, size_drew]; omega)) ?_ ))), AcR.keep (AcR.ext hxrs16 (by repeat (first | assumption | exact Ext.refl _ | refine Ext.alloc ?_ _ | refine Ext.drew ?_ | refine Ext.setB ?_ (by first | omega | (simp only [size_alloc, size_setB, size_drew]; omega)) _ | refine Ext.trans ?_ (by assumption)))) (keepSO (Ext.refl _) hSo _)⟩
        · rintro ρ18 w18 ⟨x1, hFr18, hT18, hxf18, hlg18, hst18, hb318, hb818, hb718, hxr18⟩
          refine W_env _ hFr18 ?_
          have hSS18 := hT18.ss
          have hSb18 := hSS18.blk
          have hSl18 := hSb18.lt
          have hO18 := hX.omb.keep hT18.keep
          replace hO := hO18
          have hz18 := hT18.keep.sz
          have hb3l18 := hb318.lt
          have hb8l18 := hb818.lt
          have hol18 : x1.origin.length = 20 := by rw [hSS18.rel.origin]; exact hSS18.rel.ob.1
          have hml18 : x1.made.length = 20 := by rw [hSS18.rel.made]; exact hSS18.rel.mb.1
          have hzs18 := encYS_size x1
          have hszS18 := encYS_sz hol18 hml18 (by rw [hSS18.rel.env]; exact hSS18.rel.evb)
          have hEz18 : Ext w0 w18 := ext_keep he0 hT18.keep (fun b e => e ▸ hlow)
          have htx18 := htx0.ext hEz18
          have hb7l18 := hb718.lt
          have hnb18 := hxr18.bal
          have hnn18 := hxr18.nonce
          have hcp18 := hxr18.code
          obtain ⟨LA, hPA, hRA⟩ : ∃ LA, PL encYA 24 104 w18 x1.now.accts LA ∧ R2 (AcR w18) LA y.now.accts := hSS18.rel.now.accts
          have hAl18 := hB.now.al
          have hRAl := hRA.len
          obtain ⟨sA, hsA⟩ : ∃ sA, sA = x1.now.accts := ⟨_, rfl⟩
          have hk0 : Ce (encYS x1).toArray (0 + 0 + 0) (.slice sA.1 sA.2.1 sA.2.2) := by rw [hsA]; exact ⟨rfl⟩
          rw [← hsA] at hPA
          obtain ⟨pA, nA, cA⟩ := sA
          have hPAl := hPA.len
          dsimp only at hPAl hk0
          have e18 : ({ x1 with start := (none, 0, 0) } : YSt) = x1 := by rw [← hst18]
          refine W_seqJ (fun ρ w' => ∃ (x1 : YSt), Fr [(3, .pointer (some ⟨b3, 0, none⟩)), (5, .pointer (some ⟨C, 0, none⟩)), (7, .pointer (some ⟨b7, 0, none⟩)), (8, .pointer (some ⟨b8, 0, none⟩))] ρ ∧ SStep w w' C x1 (yb2 ks y t) ∧ x1.frames = (none, 0, 0) ∧ x1.now.logs = x.now.logs ∧ Hb w' b3 (.cells (encTx t).toArray 35 (0, 0)) ∧ Hb w' b8 (.cells (ic .u8 (ybTo ks y t)) 25 (0, 0)) ∧ Hb w' b7 (.cells (encYA x3).toArray 104 (0, 0)) ∧ AcR w' x3 (yacct y.now.accts t.fr)) ?_ ?_
          · skip
            refine W_seq ?_
            refine W_region rfl ?_
            refine WO_p (PS_move_ptr rfl) ?_
            refine WO_p (PS_nilCheck rfl) ?_
            refine WO_p (PS_fieldAddr 0 Hvac.runUnderlying99 rfl Hvac.sizeOf95 rfl rfl) ?_
            refine WO_p (PS_fieldAddr 0 Hvac.runUnderlying95 rfl Hvac.sizeOf89 rfl rfl) ?_
            refine WO_load (.slice _ _ _) Hvac.isAgg89 rfl (Hb.h (by repeat (first | assumption | exact Hb.newY _ _ | refine Hb.alloc ?_ | refine Hb.drew ?_ | refine Hb.ext (by assumption) ?_ | exact Hb.setSameL (by first | omega | (simp only [size_alloc, size_setB, size_drew]; omega)) | exact Hb.setSame (by assumption) | refine Hb.set (by first | omega | (simp only [size_alloc, size_setB, size_drew]; omega)) ?_ ))) (Ce.h (by first | assumption | exact ⟨rfl⟩)) ?_
            refine WO_p (PS_lenS Hvac.runUnderlying89 rfl) ?_
            refine WO_p (PS_move_int rfl) ?_
            refine WO_nil ?_
            refine thn_normal ?_
            refine W_block ?_
            refine W_loopN (fun m ρ w' => ∃ (i : Nat) (so : Option (Nat × Nat)) (K : List YTp), i + m = nA ∧ R2 (TpR w18) K (ystart (y.now.accts.take i)) ∧ BL encYT 22 113 w18 [] w' so K ∧ Fr [(3, .pointer (some ⟨b3, 0, none⟩)), (5, .pointer (some ⟨C, 0, none⟩)), (7, .pointer (some ⟨b7, 0, none⟩)), (8, .pointer (some ⟨b8, 0, none⟩)), (94, .slice pA nA cA), (95, .int .i64 nA), (96, .int .i64 i)] ρ ∧ KeepO (fun b => b = C) w18 w' ∧ Hb w' C (.cells (encYS { x1 with start := (slp so, K.length, slc so) }).toArray 101 (0, 0))) nA ?_ ?_
            · exact ⟨0, none, [], by omega, R2.nil _, BL.nil _ _ _ _ _ _, ⟨rfl, rfl, rfl, rfl, rfl, rfl, rfl, trivial⟩, KeepO.refl _ _, by rw [show ({ x1 with start := (slp none, ([] : List YTp).length, slc none) } : YSt) = x1 from e18]; exact hSb18⟩
            intro mL ρL wL hIL
            obtain ⟨i, so, K, him, hKR, hBL, hFL, hKL, hCL⟩ := hIL
            refine W_env _ hFL ?_
            have hzL := hKL.sz
            have hCLl := hCL.lt
            have hKRl := hKR.len
            refine W_seq ?_
            refine W_region rfl ?_
            refine WO_p (PS_lss rfl rfl) ?_
            refine WO_nil ?_
            refine thn_normal ?_
            refine W_seq ?_
            refine W_if rfl (fun hb14 => ?_) (fun hb14 => ?_)
            · have hb14p := hb14.h; try simp only [al_ete, al_dfn, Bool.not_eq_true', Bool.not_eq_false', al_ne, Bool.not_not, al_nn] at hb14p
              obtain ⟨xa, ya, hxa, hya, hxy⟩ := hRA.get (i := i) (by omega)
              have hxal : xa.addr.length = 20 := by rw [hxy.addr]; exact hxy.ab.1
              obtain ⟨bA, rA, fzA, hpA, hbA, hrsA, hXA⟩ := pl_at hPA hxa (encYA_len hxal)
              subst hpA
              have hbAL := KT.kf hSb18 hKL (by decide) _ _ _ hbA
              have hszA := encYA_sz hxal
              have honeA := one_YA2 xa
              have hka0 := encYA_addr hxal
              have hylen := ystart_len hya
              obtain ⟨LS, hPS, hRS⟩ := hxy.slots
              have hRSl := hRS.len
              obtain ⟨sS, hsS⟩ : ∃ sS, sS = xa.slots := ⟨_, rfl⟩
              have hka4 := encYA_4 hxal
              rw [← hsS] at hPS hka4
              obtain ⟨pS, nS, cS⟩ := sS
              have hPSl := hPS.len
              dsimp only at hPSl hka4
              have hslN : ya.slots.length ≤ N := hB.now.sl ya (List.mem_of_getElem? hya)
              refine W_skip ?_
              refine thn_normal ?_
              refine W_seq ?_
              refine W_block ?_
              refine W_seq ?_
              refine W_region rfl ?_
              refine WO_p (PS_indexS Hvac.runUnderlying89 Hvac.sizeOf104 rfl rfl (by omega) (by omega)) ?_
              refine WO_loadA _ Hvac.isAgg104 Hvac.sizeOf104 rfl (Hb.h (by repeat (first | assumption | exact Hb.newY _ _ | refine Hb.alloc ?_ | refine Hb.drew ?_ | refine Hb.ext (by assumption) ?_ | exact Hb.setSameL (by first | omega | (simp only [size_alloc, size_setB, size_drew]; omega)) | exact Hb.setSame (by assumption) | refine Hb.set (by first | omega | (simp only [size_alloc, size_setB, size_drew]; omega)) ?_ ))) (by first | omega | assumption | rfl | decide | exact Nat.le_refl _ | (simp only [size_ic, Value.cells]; omega) | (simp [encWs]; done) | (simp; omega) | simp | exact encYA_sz (by assumption) | exact encYT_sz (by assumption) | exact encYM_sz (by assumption)) (Xt.h (by first | assumption | exact Xt.whole rfl rfl | exact Xt.whole rfl (by assumption) | exact Xt.whole rfl (by simp only [size_ic, Value.cells]; omega) | exact ⟨rfl⟩)) ?_
              refine WO_allocG Hvac.zeroValue104 ?_
              intro b10 v10 hg10 hE10 hH10 hl10
              try simp only [size_alloc, size_setB, size_drew] at hg10
              have hzz10 := hE10.1
              try simp only [size_alloc, size_setB, size_drew] at hzz10
              replace hH10 : Hb v10 b10 (.cells ((encYA (ac0 (List.replicate 20 0))).toArray) 104 (0, 0)) := hH10
              first | refine WO_storeW Hvac.sizeOf104 rfl (v := .agg _) rfl (Hb.h (by repeat (first | assumption | exact Hb.newY _ _ | refine Hb.alloc ?_ | refine Hb.drew ?_ | refine Hb.ext (by assumption) ?_ | exact Hb.setSameL (by first | omega | (simp only [size_alloc, size_setB, size_drew]; omega)) | exact Hb.setSame (by assumption) | refine Hb.set (by first | omega | (simp only [size_alloc, size_setB, size_drew]; omega)) ?_ ))) rfl (by first | omega | assumption | rfl | decide | exact Nat.le_refl _ | (simp only [size_ic, Value.cells]; omega) | (simp [encWs]; done) | (simp; omega) | simp | exact encYA_sz (by assumption) | exact encYT_sz (by assumption) | exact encYM_sz (by assumption)) (by first | omega | assumption | rfl | decide | exact Nat.le_refl _ | (simp only [size_ic, Value.cells]; omega) | (simp [encWs]; done) | (simp; omega) | simp | exact encYA_sz (by assumption) | exact encYT_sz (by assumption) | exact encYM_sz (by assumption)) (by first | exact oneCell_ic | assumption | exact one_Ws2 _ | exact one_YA2 _ | exact one_YSl2 _ | exact one_YM2 _ | exact one_YT2 _ | exact one_L2 _) ?_ | refine WO_store Hvac.sizeOf104 rfl (v := .agg _) rfl (Hb.h (by repeat (first | assumption | exact Hb.newY _ _ | refine Hb.alloc ?_ | refine Hb.drew ?_ | refine Hb.ext (by assumption) ?_ | exact Hb.setSameL (by first | omega | (simp only [size_alloc, size_setB, size_drew]; omega)) | exact Hb.setSame (by assumption) | refine Hb.set (by first | omega | (simp only [size_alloc, size_setB, size_drew]; omega)) ?_ ))) (by first | omega | assumption | rfl | decide | exact Nat.le_refl _ | (simp only [size_ic, Value.cells]; omega) | (simp [encWs]; done) | (simp; omega) | simp | exact encYA_sz (by assumption) | exact encYT_sz (by assumption) | exact encYM_sz (by assumption)) (by first | omega | assumption | rfl | decide | exact Nat.le_refl _ | (simp only [size_ic, Value.cells]; omega) | (simp [encWs]; done) | (simp; omega) | simp | exact encYA_sz (by assumption) | exact encYT_sz (by assumption) | exact encYM_sz (by assumption)) (by first | exact oneCell_ic | assumption | exact one_Ws2 _ | exact one_YA2 _ | exact one_YSl2 _ | exact one_YM2 _ | exact one_YT2 _ | exact one_L2 _) ?_
              refine WO_nil ?_
              refine thn_normal ?_
              refine W_seq ?_
              refine W_region rfl ?_
              refine WO_p (PS_fieldAddr 23 Hvac.runUnderlying104 rfl Hvac.sizeOf102 rfl rfl) ?_
              refine WO_load (.slice _ _ _) Hvac.isAgg102 rfl (Hb.h (by repeat (first | assumption | exact Hb.newY _ _ | refine Hb.alloc ?_ | refine Hb.drew ?_ | refine Hb.ext (by assumption) ?_ | exact Hb.setSameL (by first | omega | (simp only [size_alloc, size_setB, size_drew]; omega)) | exact Hb.setSame (by assumption) | refine Hb.set (by first | omega | (simp only [size_alloc, size_setB, size_drew]; omega)) ?_ ))) (Ce.h (by first | assumption | exact ⟨rfl⟩)) ?_
              refine WO_p (PS_lenS Hvac.runUnderlying102 rfl) ?_
              refine WO_p (PS_move_int rfl) ?_
              refine WO_nil ?_
              refine thn_normal ?_
              refine W_block ?_
              refine W_loopN (fun m ρ w' => ∃ (j : Nat) (so : Option (Nat × Nat)) (K : List YTp), j + m = nS ∧ R2 (TpR w18) K (ystart (y.now.accts.take i) ++ (ystartS ya).take j) ∧ BL encYT 22 113 w18 [b10] w' so K ∧ Fr [(3, .pointer (some ⟨b3, 0, none⟩)), (5, .pointer (some ⟨C, 0, none⟩)), (7, .pointer (some ⟨b7, 0, none⟩)), (8, .pointer (some ⟨b8, 0, none⟩)), (10, .pointer (some ⟨b10, 0, none⟩)), (94, .slice (some ⟨bA, 0, none⟩) nA cA), (95, .int .i64 nA), (96, .int .i64 i), (101, .slice pS nS cS), (102, .int .i64 nS), (103, .int .i64 j)] ρ ∧ KeepO (fun b => b = C) w18 w' ∧ Hb w' C (.cells (encYS { x1 with start := (slp so, K.length, slc so) }).toArray 101 (0, 0)) ∧ Hb w' b10 (.cells (encYA xa).toArray 104 (0, 0))) nS ?_ ?_
              · exact ⟨0, so, K, by omega, by simpa using hKR, ((hBL.cons hg10).ext hE10).set (Or.inl (by simp)) _, ⟨rfl, rfl, rfl, rfl, rfl, rfl, rfl, rfl, rfl, rfl, rfl, trivial⟩, KeepO.setB (hKL.extR hE10) (fun h9 => absurd h9 (by omega)) _, Hb.set (by omega) (hCL.ext hE10), Hb.setSame hH10⟩
              intro mJ ρJ wJ hIJ
              obtain ⟨j, soJ, KJ, hjm, hKJR, hBJ, hFJ, hKJ, hCJ, hb10J⟩ := hIJ
              refine W_env _ hFJ ?_
              have hzJ := hKJ.sz
              have hCJl := hCJ.lt
              have hb10l := hb10J.lt
              have hKJl := hKJR.len
              rw [List.length_append, List.length_take] at hKJl
              refine W_seq ?_
              refine W_region rfl ?_
              refine WO_p (PS_lss rfl rfl) ?_
              refine WO_nil ?_
              refine thn_normal ?_
              refine W_seq ?_
              refine W_if rfl (fun hb16 => ?_) (fun hb16 => ?_)
              · have hb16p := hb16.h; try simp only [al_ete, al_dfn, Bool.not_eq_true', Bool.not_eq_false', al_ne, Bool.not_not, al_nn] at hb16p
                obtain ⟨z, yz, hz, hyz, hzr⟩ := hRS.get (i := j) (by omega)
                obtain ⟨bS, rS, fzS, hpS, hbS, hrsS, hXS⟩ := pl_at hPS hz rfl
                subst hpS
                have hbSJ := KT.kf hSb18 hKJ (by decide) _ _ _ hbS
                have honeS : ∀ u ∈ (encYSl z).toArray.toList, u.oneCell' = true := by intro u hu; simp [encYSl] at hu; rcases hu with rfl | rfl <;> rfl
                have hkz0 : Ce (encYSl z).toArray (0 + 0) (.slice z.key.1 z.key.2.1 z.key.2.2) := ⟨rfl⟩
                have hkz1 : Ce (encYSl z).toArray (0 + 1) (.slice z.val.1 z.val.2.1 z.val.2.2) := ⟨rfl⟩
                have hsz2 : (encYSl z).toArray.size = 2 := rfl
                have hKVl : (encYT ⟨xa.addr, z.key, z.val⟩).length = 22 := encYT_len hxal
                have hk8J : Ce (encYS { x1 with start := (slp soJ, KJ.length, slc soJ) }).toArray (0 + 8) (.slice (slp soJ) KJ.length (slc soJ)) := ⟨rfl⟩
                have hzsJ := encYS_size { x1 with start := (slp soJ, KJ.length, slc soJ) }
                refine W_skip ?_
                refine thn_normal ?_
                refine W_seq ?_
                refine W_block ?_
                refine W_seq ?_
                refine W_region rfl ?_
                refine WO_p (PS_indexS Hvac.runUnderlying102 Hvac.sizeOf111 rfl rfl (by omega) (by omega)) ?_
                refine WO_loadA _ Hvac.isAgg111 Hvac.sizeOf111 rfl (Hb.h (by repeat (first | assumption | exact Hb.newY _ _ | refine Hb.alloc ?_ | refine Hb.drew ?_ | refine Hb.ext (by assumption) ?_ | exact Hb.setSameL (by first | omega | (simp only [size_alloc, size_setB, size_drew]; omega)) | exact Hb.setSame (by assumption) | refine Hb.set (by first | omega | (simp only [size_alloc, size_setB, size_drew]; omega)) ?_ ))) (by first | omega | assumption | rfl | decide | exact Nat.le_refl _ | (simp only [size_ic, Value.cells]; omega) | (simp [encWs]; done) | (simp; omega) | simp | exact encYA_sz (by assumption) | exact encYT_sz (by assumption) | exact encYM_sz (by assumption)) (Xt.h (by first | assumption | exact Xt.whole rfl rfl | exact Xt.whole rfl (by assumption) | exact Xt.whole rfl (by simp only [size_ic, Value.cells]; omega) | exact ⟨rfl⟩)) ?_
                refine WO_allocG Hvac.zeroValue111 ?_
                intro b12 v12 hg12 hE12 hH12 hl12
                try simp only [size_alloc, size_setB, size_drew] at hg12
                have hzz12 := hE12.1
                try simp only [size_alloc, size_setB, size_drew] at hzz12
                first | refine WO_storeW Hvac.sizeOf111 rfl (v := .agg _) rfl (Hb.h (by repeat (first | assumption | exact Hb.newY _ _ | refine Hb.alloc ?_ | refine Hb.drew ?_ | refine Hb.ext (by assumption) ?_ | exact Hb.setSameL (by first | omega | (simp only [size_alloc, size_setB, size_drew]; omega)) | exact Hb.setSame (by assumption) | refine Hb.set (by first | omega | (simp only [size_alloc, size_setB, size_drew]; omega)) ?_ ))) rfl (by first | omega | assumption | rfl | decide | exact Nat.le_refl _ | (simp only [size_ic, Value.cells]; omega) | (simp [encWs]; done) | (simp; omega) | simp | exact encYA_sz (by assumption) | exact encYT_sz (by assumption) | exact encYM_sz (by assumption)) (by first | omega | assumption | rfl | decide | exact Nat.le_refl _ | (simp only [size_ic, Value.cells]; omega) | (simp [encWs]; done) | (simp; omega) | simp | exact encYA_sz (by assumption) | exact encYT_sz (by assumption) | exact encYM_sz (by assumption)) (by first | exact oneCell_ic | assumption | exact one_Ws2 _ | exact one_YA2 _ | exact one_YSl2 _ | exact one_YM2 _ | exact one_YT2 _ | exact one_L2 _) ?_ | refine WO_store Hvac.sizeOf111 rfl (v := .agg _) rfl (Hb.h (by repeat (first | assumption | exact Hb.newY _ _ | refine Hb.alloc ?_ | refine Hb.drew ?_ | refine Hb.ext (by assumption) ?_ | exact Hb.setSameL (by first | omega | (simp only [size_alloc, size_setB, size_drew]; omega)) | exact Hb.setSame (by assumption) | refine Hb.set (by first | omega | (simp only [size_alloc, size_setB, size_drew]; omega)) ?_ ))) (by first | omega | assumption | rfl | decide | exact Nat.le_refl _ | (simp only [size_ic, Value.cells]; omega) | (simp [encWs]; done) | (simp; omega) | simp | exact encYA_sz (by assumption) | exact encYT_sz (by assumption) | exact encYM_sz (by assumption)) (by first | omega | assumption | rfl | decide | exact Nat.le_refl _ | (simp only [size_ic, Value.cells]; omega) | (simp [encWs]; done) | (simp; omega) | simp | exact encYA_sz (by assumption) | exact encYT_sz (by assumption) | exact encYM_sz (by assumption)) (by first | exact oneCell_ic | assumption | exact one_Ws2 _ | exact one_YA2 _ | exact one_YSl2 _ | exact one_YM2 _ | exact one_YT2 _ | exact one_L2 _) ?_
                refine WO_nil ?_
                refine thn_normal ?_
                refine W_gen fun wB hwB => ?_
                have hBB : BL encYT 22 113 w18 [b12, b10] wB soJ KJ := by rw [hwB]; exact ((hBJ.cons hg12).ext hE12).set (Or.inl (by simp)) _
                have hKB : KeepO (fun b => b = C) w18 wB := by rw [hwB]; exact KeepO.setB (hKJ.extR hE12) (fun h9 => absurd h9 (by omega)) _
                have hCB : Hb wB C (.cells (encYS { x1 with start := (slp soJ, KJ.length, slc soJ) }).toArray 101 (0, 0)) := by rw [hwB]; exact Hb.set (by omega) (hCJ.ext hE12)
                have hb10B : Hb wB b10 (.cells (encYA xa).toArray 104 (0, 0)) := by rw [hwB]; exact Hb.set (by omega) (hb10J.ext hE12)
                have hb12B : Hb wB b12 (.cells (encYSl z).toArray 111 (0, 0)) := by rw [hwB]; exact Hb.setSame hH12
                clear hwB
                have hzB := hKB.sz
                have hCBl := hCB.lt
                have hb10Bl := hb10B.lt
                have hb12Bl := hb12B.lt
                refine W_drawE [false, false, false, false, false, false, false, false, false, false, false, false, true, false, false, false, false] hmix (by kernel_rfl) rfl ?_
                refine WH_p (PS_move_ptr rfl) rfl ?_
                refine WH_p (PS_move_ptr rfl) rfl ?_
                refine WH_p (PS_nilCheck rfl) rfl ?_
                refine WH_p (PS_fieldAddr 8 Hvac.runUnderlying99 rfl Hvac.sizeOf96 rfl rfl) rfl ?_
                refine WH_load (.slice _ _ _) Hvac.isAgg96 rfl (Hb.h (by repeat (first | assumption | exact Hb.newY _ _ | refine Hb.alloc ?_ | refine Hb.drew ?_ | refine Hb.ext (by assumption) ?_ | exact Hb.setSameL (by first | omega | (simp only [size_alloc, size_setB, size_drew]; omega)) | exact Hb.setSame (by assumption) | refine Hb.set (by first | omega | (simp only [size_alloc, size_setB, size_drew]; omega)) ?_ ))) (Ce.h (by first | assumption | exact ⟨rfl⟩)) ?_
                refine WH_p (PS_fieldAddr 0 Hvac.runUnderlying104 rfl Hvac.sizeOf25 rfl rfl) rfl ?_
                refine WH_loadA _ Hvac.isAgg25 Hvac.sizeOf25 rfl (Hb.h (by repeat (first | assumption | exact Hb.newY _ _ | refine Hb.alloc ?_ | refine Hb.drew ?_ | refine Hb.ext (by assumption) ?_ | exact Hb.setSameL (by first | omega | (simp only [size_alloc, size_setB, size_drew]; omega)) | exact Hb.setSame (by assumption) | refine Hb.set (by first | omega | (simp only [size_alloc, size_setB, size_drew]; omega)) ?_ ))) (by first | omega | assumption | rfl | decide | exact Nat.le_refl _ | (simp only [size_ic, Value.cells]; omega) | (simp [encWs]; done) | (simp; omega) | simp | exact encYA_sz (by assumption) | exact encYT_sz (by assumption) | exact encYM_sz (by assumption)) (Xt.h (by first | assumption | exact Xt.whole rfl rfl | exact Xt.whole rfl (by assumption) | exact Xt.whole rfl (by simp only [size_ic, Value.cells]; omega) | exact ⟨rfl⟩)) ?_
                refine WH_p (PS_fieldAddr 0 Hvac.runUnderlying111 rfl Hvac.sizeOf92 rfl rfl) rfl ?_
                refine WH_load (.slice _ _ _) Hvac.isAgg92 rfl (Hb.h (by repeat (first | assumption | exact Hb.newY _ _ | refine Hb.alloc ?_ | refine Hb.drew ?_ | refine Hb.ext (by assumption) ?_ | exact Hb.setSameL (by first | omega | (simp only [size_alloc, size_setB, size_drew]; omega)) | exact Hb.setSame (by assumption) | refine Hb.set (by first | omega | (simp only [size_alloc, size_setB, size_drew]; omega)) ?_ ))) (Ce.h (by first | assumption | exact ⟨rfl⟩)) ?_
                refine WH_p (PS_fieldAddr 1 Hvac.runUnderlying111 rfl Hvac.sizeOf92 rfl rfl) rfl ?_
                refine WH_load (.slice _ _ _) Hvac.isAgg92 rfl (Hb.h (by repeat (first | assumption | exact Hb.newY _ _ | refine Hb.alloc ?_ | refine Hb.drew ?_ | refine Hb.ext (by assumption) ?_ | exact Hb.setSameL (by first | omega | (simp only [size_alloc, size_setB, size_drew]; omega)) | exact Hb.setSame (by assumption) | refine Hb.set (by first | omega | (simp only [size_alloc, size_setB, size_drew]; omega)) ?_ ))) (Ce.h (by first | assumption | exact ⟨rfl⟩)) ?_
                refine WH_p (PS_b113 (A := xa.addr) rfl hxal rfl rfl) rfl ?_
                refine WH_buildSlice1 Hvac.runUnderlying96 Hvac.sizeOf113 Hvac.zeroValue113 rfl (by first | omega | assumption | rfl | decide | exact Nat.le_refl _ | (simp only [size_ic, Value.cells]; omega) | (simp [encWs]; done) | (simp; omega) | simp | exact encYA_sz (by assumption) | exact encYT_sz (by assumption) | exact encYM_sz (by assumption)) (by decide) (by decide) (fun _ => (by repeat (first | assumption | exact Ext.refl _ | refine Ext.alloc ?_ _ | refine Ext.drew ?_ | refine Ext.setB ?_ (by first | omega | (simp only [size_alloc, size_setB, size_drew]; omega)) _ | exact Ext.trans (by assumption) (by assumption) | refine Ext.trans ?_ (by assumption)))) ?_
                refine WH_appK (YTp.mk xa.addr z.key z.val) ap_Y113 (BL.ext hBB (by repeat (first | assumption | exact Ext.refl _ | refine Ext.alloc ?_ _ | refine Ext.drew ?_ | refine Ext.setB ?_ (by first | omega | (simp only [size_alloc, size_setB, size_drew]; omega)) _ | exact Ext.trans (by assumption) (by assumption) | refine Ext.trans ?_ (by assumption)))) (by first | omega | (simp only [size_alloc, size_setB, size_drew]; omega)) (fm2 (by first | omega | (simp only [size_alloc, size_setB, size_drew]; omega)) (by first | omega | (simp only [size_alloc, size_setB, size_drew]; omega))) (by omega) hKVl (Hb.newY _ _) rfl rfl ?_
                intro so24 w24 hB24 hk24
                have hz24 := hk24.sz
                try simp only [size_alloc, size_setB, size_drew] at hz24
                have hC24 : Hb w24 C (.cells (encYS { x1 with start := (slp soJ, KJ.length, slc soJ) }).toArray 101 (0, 0)) := Hb.keepO hk24 (fun e => absurd (hBB.fr C e).1 (by omega)) (Hb.mk (Hb.h (by repeat (first | assumption | exact Hb.newY _ _ | refine Hb.alloc ?_ | refine Hb.drew ?_ | refine Hb.ext (by assumption) ?_ | exact Hb.setSameL (by first | omega | (simp only [size_alloc, size_setB, size_drew]; omega)) | exact Hb.setSame (by assumption) | refine Hb.set (by first | omega | (simp only [size_alloc, size_setB, size_drew]; omega)) ?_ ))))
                have hb10_24 : Hb w24 b10 (.cells (encYA xa).toArray 104 (0, 0)) := Hb.keepO hk24 (fun e => absurd (hBB.fr b10 e).2 (by simp)) (Hb.mk (Hb.h (by repeat (first | assumption | exact Hb.newY _ _ | refine Hb.alloc ?_ | refine Hb.drew ?_ | refine Hb.ext (by assumption) ?_ | exact Hb.setSameL (by first | omega | (simp only [size_alloc, size_setB, size_drew]; omega)) | exact Hb.setSame (by assumption) | refine Hb.set (by first | omega | (simp only [size_alloc, size_setB, size_drew]; omega)) ?_ ))))
                have hK24 : KeepO (fun b => b = C) w18 w24 := by
                  refine KeepO.trans ?_ hk24 (fun b hb e => absurd (hBB.fr b e).1 (by omega))
                  exact hKB.extR (by repeat (first | assumption | exact Ext.refl _ | refine Ext.alloc ?_ _ | refine Ext.drew ?_ | refine Ext.setB ?_ (by first | omega | (simp only [size_alloc, size_setB, size_drew]; omega)) _ | exact Ext.trans (by assumption) (by assumption) | refine Ext.trans ?_ (by assumption)))
                have hC24l := hC24.lt
                refine ⟨(fun h => by cases h), ?_⟩
                refine WH_p (PS_nilCheck rfl) rfl ?_
                refine WH_p (PS_fieldAddr 8 Hvac.runUnderlying99 rfl Hvac.sizeOf96 rfl rfl) rfl ?_
                refine WH_store1 Hvac.sizeOf96 rfl (v := (.slice _ _ _)) rfl (Hb.h (by repeat (first | assumption | exact Hb.newY _ _ | refine Hb.alloc ?_ | refine Hb.drew ?_ | refine Hb.ext (by assumption) ?_ | exact Hb.setSameL (by first | omega | (simp only [size_alloc, size_setB, size_drew]; omega)) | exact Hb.setSame (by assumption) | refine Hb.set (by first | omega | (simp only [size_alloc, size_setB, size_drew]; omega)) ?_ ))) rfl (by first | omega | assumption | rfl | decide | exact Nat.le_refl _ | (simp only [size_ic, Value.cells]; omega) | (simp [encWs]; done) | (simp; omega) | simp | exact encYA_sz (by assumption) | exact encYT_sz (by assumption) | exact encYM_sz (by assumption)) rfl (fun h => by cases h) ?_
                refine WH_nil ?_
                refine inBlk_normal ?_
                refine thn_normal ?_
                refine W_region rfl ?_
                refine WO_p (PS_add_i64n rfl rfl (by omega) (by omega)) ?_
                refine WO_p (PS_move_int rfl) ?_
                refine WO_nil ?_
                refine thn_normal ?_
                exact ⟨mJ - 1, by omega, j + 1, so24, KJ ++ [YTp.mk xa.addr z.key z.val], by omega, by rw [ystartS_snoc hyz, ← List.append_assoc]; exact hKJR.snoc ⟨hxy.addr, hxy.ab, hzr.key, hzr.val, hzr.kz, hzr.vz⟩, (hB24.tail (by simp)).set (Or.inr (by omega)) _, ⟨rfl, rfl, rfl, rfl, rfl, rfl, rfl, rfl, rfl, rfl, congrArg (Value.int .i64) (by omega), trivial⟩, KeepO.setB hK24 (fun _ => rfl) _, by rw [← encYS_8]; exact Hb.setSame hC24, Hb.set (by omega) hb10_24⟩
              · have hb16p := hb16.h; try simp only [al_ete, al_dfn, Bool.not_eq_true', Bool.not_eq_false', al_ne, Bool.not_not, al_nn] at hb16p
                refine W_exit ?_
                refine thn_exit ?_
                refine thn_exit ?_
                refine inBlk_exit ?_
                refine inBlk_normal ?_
                refine thn_normal ?_
                refine W_region rfl ?_
                refine WO_p (PS_add_i64n rfl rfl (by omega) (by omega)) ?_
                refine WO_p (PS_move_int rfl) ?_
                refine WO_nil ?_
                refine thn_normal ?_
                exact ⟨mL - 1, by omega, i + 1, soJ, KJ, by omega, by rw [ystart_snoc hya]; rw [show (ystartS ya).take j = ystartS ya from List.take_of_length_le (by unfold ystartS; rw [List.length_map]; omega)] at hKJR; exact hKJR, hBJ.tail (by simp), ⟨rfl, rfl, rfl, rfl, rfl, rfl, congrArg (Value.int .i64) (by omega), trivial⟩, hKJ, hCJ⟩
            · have hb14p := hb14.h; try simp only [al_ete, al_dfn, Bool.not_eq_true', Bool.not_eq_false', al_ne, Bool.not_not, al_nn] at hb14p
              refine W_exit ?_
              refine thn_exit ?_
              refine thn_exit ?_
              refine inBlk_exit ?_
              refine thn_normal ?_
              exact ⟨_, ⟨rfl, rfl, rfl, rfl, trivial⟩, hT18.trans ⟨hKL, hCL, { hSS18.kpC hKL with start := ⟨K, hBL.pl hO18, (show R2 (TpR wL) K (ystart y.now.accts) from by rw [show ystart y.now.accts = ystart (y.now.accts.take i) by rw [List.take_of_length_le (by omega)]]; exact hKR.mono fun _ _ h => TpR.keep h (hKL.om fun b _ e => e ▸ hSo))⟩ }, hSo⟩, hxf18, hlg18, hb318.keepO hKL (fun e => absurd e (by omega)), hb818.keepO hKL (fun e => absurd e (by omega)), hb718.keepO hKL (fun e => absurd e (by omega)), hxr18.keep (hKL.om fun b _ e => e ▸ hSo)⟩
          · rintro ρ27 w27 ⟨x1, hFr27, hT27, hxf27, hlg27, hb327, hb827, hb727, hxr27⟩
            refine W_env _ hFr27 ?_
            have hSS27 := hT27.ss
            have hSb27 := hSS27.blk
            have hSl27 := hSb27.lt
            have hO27 := hX.omb.keep hT27.keep
            replace hO := hO27
            have hz27 := hT27.keep.sz
            have hb3l27 := hb327.lt
            have hb8l27 := hb827.lt
            have hol27 : x1.origin.length = 20 := by rw [hSS27.rel.origin]; exact hSS27.rel.ob.1
            have hml27 : x1.made.length = 20 := by rw [hSS27.rel.made]; exact hSS27.rel.mb.1
            have hzs27 := encYS_size x1
            have hszS27 := encYS_sz hol27 hml27 (by rw [hSS27.rel.env]; exact hSS27.rel.evb)
            have hEz27 : Ext w0 w27 := ext_keep he0 hT27.keep (fun b e => e ▸ hlow)
            have htx27 := htx0.ext hEz27
            have hb7l27 := hb727.lt
            have hnb27 := hxr27.bal
            have hnn27 := hxr27.nonce
            have hcp27 := hxr27.code
            have hpr : yprice (bvY y.env.bfee) t ≤ bvY (feeB t).1 := by unfold yprice; have := hV.fb; omega
            have hzpr : sz (yprice (bvY y.env.bfee) t) ≤ 32 := Nat.le_trans (sz_mono hpr) hzf1
            have hzga : sz t.gas.toNat ≤ 8 := sz64 (by have := hV.ga; omega)
            have hB27 : PSB N (yb2 ks y t) := { hB with st := hst, sz1 := Nat.le_trans hzga (by decide), sz2 := Nat.le_trans (sz_mono (Nat.sub_le _ _)) (Nat.le_trans hzga (by decide)), sz4 := Nat.le_trans hzpr (by decide) }
            have hzbl : sz (yacct y.now.accts t.fr).bal ≤ 32 := hYB t.fr
            refine W_seq ?_
            refine W_drawE [false, false, false, false, false, false, false, true, true, false] hmix (by kernel_rfl) rfl ?_
            refine WH_p (PS_move_ptr rfl) rfl ?_
            refine WH_p (PS_nilCheck rfl) rfl ?_
            refine WH_p (PS_fieldAddr 0 Hvac.runUnderlying99 rfl Hvac.sizeOf95 rfl rfl) rfl ?_
            refine WH_p (PS_fieldAddr 0 Hvac.runUnderlying35 rfl Hvac.sizeOf25 rfl rfl) rfl ?_
            refine WH_loadA _ Hvac.isAgg25 Hvac.sizeOf25 rfl (Hb.h (by repeat (first | assumption | exact Hb.newY _ _ | refine Hb.alloc ?_ | refine Hb.drew ?_ | refine Hb.ext (by assumption) ?_ | exact Hb.setSameL (by first | omega | (simp only [size_alloc, size_setB, size_drew]; omega)) | exact Hb.setSame (by assumption) | refine Hb.set (by first | omega | (simp only [size_alloc, size_setB, size_drew]; omega)) ?_ ))) (by first | omega | assumption | rfl | decide | exact Nat.le_refl _ | (simp only [size_ic, Value.cells]; omega) | (simp [encWs]; done) | (simp; omega) | simp | exact encYA_sz (by assumption) | exact encYT_sz (by assumption) | exact encYM_sz (by assumption)) (Xt.h (by first | assumption | exact Xt.whole rfl rfl | exact Xt.whole rfl (by assumption) | exact Xt.whole rfl (by simp only [size_ic, Value.cells]; omega) | exact ⟨rfl⟩)) ?_
            refine WH_p (PS_fieldAddr 20 Hvac.runUnderlying104 rfl Hvac.sizeOf92 rfl rfl) rfl ?_
            refine WH_load (.slice _ _ _) Hvac.isAgg92 rfl (Hb.h (by repeat (first | assumption | exact Hb.newY _ _ | refine Hb.alloc ?_ | refine Hb.drew ?_ | refine Hb.ext (by assumption) ?_ | exact Hb.setSameL (by first | omega | (simp only [size_alloc, size_setB, size_drew]; omega)) | exact Hb.setSame (by assumption) | refine Hb.set (by first | omega | (simp only [size_alloc, size_setB, size_drew]; omega)) ?_ ))) (Ce.h (by first | assumption | exact ⟨rfl⟩)) ?_
            refine WH_call Hvac.call19 (by rfl) (Ret.mono (nNum_spec (OmB.ext hO (by repeat (first | assumption | exact Ext.refl _ | refine Ext.alloc ?_ _ | refine Ext.drew ?_ | refine Ext.setB ?_ (by first | omega | (simp only [size_alloc, size_setB, size_drew]; omega)) _ | exact Ext.trans (by assumption) (by assumption) | refine Ext.trans ?_ (by assumption)))) ⟨by omega, by omega⟩) ?_)
            rintro _ w19_16 ⟨hE19_16, s19_16, rfl, hN19_16, hs19_16⟩
            refine ⟨fun _ => (by repeat (first | assumption | exact Ext.refl _ | refine Ext.alloc ?_ _ | refine Ext.drew ?_ | refine Ext.setB ?_ (by first | omega | (simp only [size_alloc, size_setB, size_drew]; omega)) _ | exact Ext.trans (by assumption) (by assumption) | refine Ext.trans ?_ (by assumption))), ?_⟩
            have hz19_16 := hE19_16.1
            try simp only [size_alloc, size_setB, size_drew] at hz19_16
            try simp only [Int.toNat_natCast, toNat_lit] at hN19_16 hs19_16
            refine WH_call Hvac.call24 (by rfl) (Ret.mono (nAdd_spec (OmB.ext hO (by repeat (first | assumption | exact Ext.refl _ | refine Ext.alloc ?_ _ | refine Ext.drew ?_ | refine Ext.setB ?_ (by first | omega | (simp only [size_alloc, size_setB, size_drew]; omega)) _ | exact Ext.trans (by assumption) (by assumption) | refine Ext.trans ?_ (by assumption)))) (by first | exact NN.nil _ | assumption | exact NN.ext (by assumption) (by repeat (first | assumption | exact Ext.refl _ | refine Ext.alloc ?_ _ | refine Ext.drew ?_ | refine Ext.setB ?_ (by first | omega | (simp only [size_alloc, size_setB, size_drew]; omega)) _ | exact Ext.trans (by assumption) (by assumption) | refine Ext.trans ?_ (by assumption)))) (by first | exact NN.nil _ | assumption | exact NN.ext (by assumption) (by repeat (first | assumption | exact Ext.refl _ | refine Ext.alloc ?_ _ | refine Ext.drew ?_ | refine Ext.setB ?_ (by first | omega | (simp only [size_alloc, size_setB, size_drew]; omega)) _ | exact Ext.trans (by assumption) (by assumption) | refine Ext.trans ?_ (by assumption)))) (by first | assumption | omega | (rw [sz_zero]; omega)) (by first | assumption | omega | (rw [sz_zero]; omega))) ?_)
            rintro _ w24_17 ⟨hE24_17, s24_17, rfl, hN24_17⟩
            refine ⟨fun _ => (by repeat (first | assumption | exact Ext.refl _ | refine Ext.alloc ?_ _ | refine Ext.drew ?_ | refine Ext.setB ?_ (by first | omega | (simp only [size_alloc, size_setB, size_drew]; omega)) _ | exact Ext.trans (by assumption) (by assumption) | refine Ext.trans ?_ (by assumption))), ?_⟩
            have hz24_17 := hE24_17.1
            try simp only [size_alloc, size_setB, size_drew] at hz24_17
            have hs24_17 := hN24_17.z_add
            refine WH_call Hvac.call23 (by rfl) (Ret.mono (setNonceS (OmB.ext hO (by repeat (first | assumption | exact Ext.refl _ | refine Ext.alloc ?_ _ | refine Ext.drew ?_ | refine Ext.setB ?_ (by first | omega | (simp only [size_alloc, size_setB, size_drew]; omega)) _ | exact Ext.trans (by assumption) (by assumption) | refine Ext.trans ?_ (by assumption)))) (YSS.ext hSS27 (by repeat (first | assumption | exact Ext.refl _ | refine Ext.alloc ?_ _ | refine Ext.drew ?_ | refine Ext.setB ?_ (by first | omega | (simp only [size_alloc, size_setB, size_drew]; omega)) _ | exact Ext.trans (by assumption) (by assumption) | refine Ext.trans ?_ (by assumption)))) hB27 (by omega) htx.fr (by first | exact NN.nil _ | assumption | exact NN.ext (by assumption) (by repeat (first | assumption | exact Ext.refl _ | refine Ext.alloc ?_ _ | refine Ext.drew ?_ | refine Ext.setB ?_ (by first | omega | (simp only [size_alloc, size_setB, size_drew]; omega)) _ | exact Ext.trans (by assumption) (by assumption) | refine Ext.trans ?_ (by assumption)))) (by omega)) ?_)
            rintro _ w28n ⟨rfl, s28n, hT28n⟩
            refine ⟨(fun h => by cases h), ?_⟩
            have hTa28n : SStep w27 w28n C (xsAccts x1 s28n) (ysAccts (yb2 ks y t) (ysetNonce y.now.accts t.fr ((yacct y.now.accts t.fr).nonce + 1))) := SStep.pre (by repeat (first | assumption | exact Ext.refl _ | refine Ext.alloc ?_ _ | refine Ext.drew ?_ | refine Ext.setB ?_ (by first | omega | (simp only [size_alloc, size_setB, size_drew]; omega)) _ | refine Ext.trans ?_ (by assumption))) hT28n
            have hK28n := hTa28n.keep
            have hKO28n := hTa28n.ko
            replace hO := hO.keep hKO28n
            have hSS28n := hTa28n.ss
            have hSb28n := hSS28n.blk
            have hSl28n := hSb28n.lt
            have hz28n := hK28n.sz
            have hzs28n := encYS_size (xsAccts x1 s28n)
            have hEz28n : Ext w0 w28n := ext_keep hEz27 hK28n (fun b e => e ▸ hlow)
            have htx28n := htx0.ext hEz28n
            have hb328n := hb327.keepO hK28n (fun e => absurd e (by omega))
            have hb3l28n := hb328n.lt
            have hb728n := hb727.keepO hK28n (fun e => absurd e (by omega))
            have hb7l28n := hb728n.lt
            have hb828n := hb827.keepO hK28n (fun e => absurd e (by omega))
            have hb8l28n := hb828n.lt
            have hszS28n := encYS_sz (x := xsAccts x1 s28n) hol27 hml27 (by show EvB x1.env; rw [hSS27.rel.env]; exact hSS27.rel.evb)
            have hxr28n := hxr27.keep hKO28n
            have hnb28n := hxr28n.bal
            have hB28n : PSB (N + 1) (ysAccts (yb2 ks y t) (ysetNonce y.now.accts t.fr ((yacct y.now.accts t.fr).nonce + 1))) := hB27.setNonce (by omega) t.fr _
            have hk1428n : Ce (encYS (xsAccts x1 s28n)).toArray (0 + 14) (.slice x1.limit.1 x1.limit.2.1 x1.limit.2.2) := ⟨rfl⟩
            have hk1728n : Ce (encYS (xsAccts x1 s28n)).toArray (0 + 17) (.slice x1.price.1 x1.price.2.1 x1.price.2.2) := ⟨rfl⟩
            have hNl28n : NN w28n x1.limit t.gas.toNat := hSS28n.rel.limit
            have hNp28n : NN w28n x1.price (yprice (bvY y.env.bfee) t) := hSS28n.rel.price
            refine WH_nil ?_
            refine thn_normal ?_
            refine W_seq ?_
            refine W_drawE [false, false, false, false, false, false, false, false, false, false, false, false, false, false, false, true, true, false] hmix (by kernel_rfl) rfl ?_
            refine WH_p (PS_move_ptr rfl) rfl ?_
            refine WH_p (PS_nilCheck rfl) rfl ?_
            refine WH_p (PS_fieldAddr 0 Hvac.runUnderlying99 rfl Hvac.sizeOf95 rfl rfl) rfl ?_
            refine WH_p (PS_fieldAddr 0 Hvac.runUnderlying35 rfl Hvac.sizeOf25 rfl rfl) rfl ?_
            refine WH_loadA _ Hvac.isAgg25 Hvac.sizeOf25 rfl (Hb.h (by repeat (first | assumption | exact Hb.newY _ _ | refine Hb.alloc ?_ | refine Hb.drew ?_ | refine Hb.ext (by assumption) ?_ | exact Hb.setSameL (by first | omega | (simp only [size_alloc, size_setB, size_drew]; omega)) | exact Hb.setSame (by assumption) | refine Hb.set (by first | omega | (simp only [size_alloc, size_setB, size_drew]; omega)) ?_ ))) (by first | omega | assumption | rfl | decide | exact Nat.le_refl _ | (simp only [size_ic, Value.cells]; omega) | (simp [encWs]; done) | (simp; omega) | simp | exact encYA_sz (by assumption) | exact encYT_sz (by assumption) | exact encYM_sz (by assumption)) (Xt.h (by first | assumption | exact Xt.whole rfl rfl | exact Xt.whole rfl (by assumption) | exact Xt.whole rfl (by simp only [size_ic, Value.cells]; omega) | exact ⟨rfl⟩)) ?_
            refine WH_p (PS_fieldAddr 21 Hvac.runUnderlying104 rfl Hvac.sizeOf92 rfl rfl) rfl ?_
            refine WH_load (.slice _ _ _) Hvac.isAgg92 rfl (Hb.h (by repeat (first | assumption | exact Hb.newY _ _ | refine Hb.alloc ?_ | refine Hb.drew ?_ | refine Hb.ext (by assumption) ?_ | exact Hb.setSameL (by first | omega | (simp only [size_alloc, size_setB, size_drew]; omega)) | exact Hb.setSame (by assumption) | refine Hb.set (by first | omega | (simp only [size_alloc, size_setB, size_drew]; omega)) ?_ ))) (Ce.h (by first | assumption | exact ⟨rfl⟩)) ?_
            refine WH_p (PS_move_ptr rfl) rfl ?_
            refine WH_p (PS_nilCheck rfl) rfl ?_
            refine WH_p (PS_fieldAddr 14 Hvac.runUnderlying99 rfl Hvac.sizeOf92 rfl rfl) rfl ?_
            refine WH_load (.slice _ _ _) Hvac.isAgg92 rfl (Hb.h (by repeat (first | assumption | exact Hb.newY _ _ | refine Hb.alloc ?_ | refine Hb.drew ?_ | refine Hb.ext (by assumption) ?_ | exact Hb.setSameL (by first | omega | (simp only [size_alloc, size_setB, size_drew]; omega)) | exact Hb.setSame (by assumption) | refine Hb.set (by first | omega | (simp only [size_alloc, size_setB, size_drew]; omega)) ?_ ))) (Ce.h (by first | assumption | exact ⟨rfl⟩)) ?_
            refine WH_p (PS_move_ptr rfl) rfl ?_
            refine WH_p (PS_nilCheck rfl) rfl ?_
            refine WH_p (PS_fieldAddr 17 Hvac.runUnderlying99 rfl Hvac.sizeOf92 rfl rfl) rfl ?_
            refine WH_load (.slice _ _ _) Hvac.isAgg92 rfl (Hb.h (by repeat (first | assumption | exact Hb.newY _ _ | refine Hb.alloc ?_ | refine Hb.drew ?_ | refine Hb.ext (by assumption) ?_ | exact Hb.setSameL (by first | omega | (simp only [size_alloc, size_setB, size_drew]; omega)) | exact Hb.setSame (by assumption) | refine Hb.set (by first | omega | (simp only [size_alloc, size_setB, size_drew]; omega)) ?_ ))) (Ce.h (by first | assumption | exact ⟨rfl⟩)) ?_
            refine WH_call Hvac.call26 (by rfl) (Ret.mono (nMul_spec (OmB.ext hO (by repeat (first | assumption | exact Ext.refl _ | refine Ext.alloc ?_ _ | refine Ext.drew ?_ | refine Ext.setB ?_ (by first | omega | (simp only [size_alloc, size_setB, size_drew]; omega)) _ | exact Ext.trans (by assumption) (by assumption) | refine Ext.trans ?_ (by assumption)))) (by first | exact NN.nil _ | assumption | exact NN.ext (by assumption) (by repeat (first | assumption | exact Ext.refl _ | refine Ext.alloc ?_ _ | refine Ext.drew ?_ | refine Ext.setB ?_ (by first | omega | (simp only [size_alloc, size_setB, size_drew]; omega)) _ | exact Ext.trans (by assumption) (by assumption) | refine Ext.trans ?_ (by assumption)))) (by first | exact NN.nil _ | assumption | exact NN.ext (by assumption) (by repeat (first | assumption | exact Ext.refl _ | refine Ext.alloc ?_ _ | refine Ext.drew ?_ | refine Ext.setB ?_ (by first | omega | (simp only [size_alloc, size_setB, size_drew]; omega)) _ | exact Ext.trans (by assumption) (by assumption) | refine Ext.trans ?_ (by assumption)))) (by first | assumption | omega | (rw [sz_zero]; omega)) (by first | assumption | omega | (rw [sz_zero]; omega))) ?_)
            rintro _ w26_19 ⟨hE26_19, s26_19, rfl, hN26_19⟩
            refine ⟨fun _ => (by repeat (first | assumption | exact Ext.refl _ | refine Ext.alloc ?_ _ | refine Ext.drew ?_ | refine Ext.setB ?_ (by first | omega | (simp only [size_alloc, size_setB, size_drew]; omega)) _ | exact Ext.trans (by assumption) (by assumption) | refine Ext.trans ?_ (by assumption))), ?_⟩
            have hz26_19 := hE26_19.1
            try simp only [size_alloc, size_setB, size_drew] at hz26_19
            have hs26_19 := hN26_19.z_mul
            refine WH_call Hvac.call20 (by rfl) (Ret.mono (less_spec _ (OmB.ext hO (by repeat (first | assumption | exact Ext.refl _ | refine Ext.alloc ?_ _ | refine Ext.drew ?_ | refine Ext.setB ?_ (by first | omega | (simp only [size_alloc, size_setB, size_drew]; omega)) _ | exact Ext.trans (by assumption) (by assumption) | refine Ext.trans ?_ (by assumption)))) _ _ _ _ (by first | exact NN.nil _ | assumption | exact NN.ext (by assumption) (by repeat (first | assumption | exact Ext.refl _ | refine Ext.alloc ?_ _ | refine Ext.drew ?_ | refine Ext.setB ?_ (by first | omega | (simp only [size_alloc, size_setB, size_drew]; omega)) _ | exact Ext.trans (by assumption) (by assumption) | refine Ext.trans ?_ (by assumption)))) (by first | assumption | omega | (rw [sz_zero]; omega)) _ _ _ _ (by first | exact NN.nil _ | assumption | exact NN.ext (by assumption) (by repeat (first | assumption | exact Ext.refl _ | refine Ext.alloc ?_ _ | refine Ext.drew ?_ | refine Ext.setB ?_ (by first | omega | (simp only [size_alloc, size_setB, size_drew]; omega)) _ | exact Ext.trans (by assumption) (by assumption) | refine Ext.trans ?_ (by assumption)))) (by first | assumption | omega | (rw [sz_zero]; omega))) ?_)
            rintro _ w20_20 ⟨hE20_20, s20_20, rfl, hN20_20⟩
            refine ⟨fun _ => (by repeat (first | assumption | exact Ext.refl _ | refine Ext.alloc ?_ _ | refine Ext.drew ?_ | refine Ext.setB ?_ (by first | omega | (simp only [size_alloc, size_setB, size_drew]; omega)) _ | exact Ext.trans (by assumption) (by assumption) | refine Ext.trans ?_ (by assumption))), ?_⟩
            have hz20_20 := hE20_20.1
            try simp only [size_alloc, size_setB, size_drew] at hz20_20
            have hs20_20 := hN20_20.z_sub
            refine WH_call Hvac.call25 (by rfl) (Ret.mono (setBalS (OmB.ext hO (by repeat (first | assumption | exact Ext.refl _ | refine Ext.alloc ?_ _ | refine Ext.drew ?_ | refine Ext.setB ?_ (by first | omega | (simp only [size_alloc, size_setB, size_drew]; omega)) _ | exact Ext.trans (by assumption) (by assumption) | refine Ext.trans ?_ (by assumption)))) (YSS.ext hSS28n (by repeat (first | assumption | exact Ext.refl _ | refine Ext.alloc ?_ _ | refine Ext.drew ?_ | refine Ext.setB ?_ (by first | omega | (simp only [size_alloc, size_setB, size_drew]; omega)) _ | exact Ext.trans (by assumption) (by assumption) | refine Ext.trans ?_ (by assumption)))) hB28n (by omega) htx.fr (by first | exact NN.nil _ | assumption | exact NN.ext (by assumption) (by repeat (first | assumption | exact Ext.refl _ | refine Ext.alloc ?_ _ | refine Ext.drew ?_ | refine Ext.setB ?_ (by first | omega | (simp only [size_alloc, size_setB, size_drew]; omega)) _ | exact Ext.trans (by assumption) (by assumption) | refine Ext.trans ?_ (by assumption)))) (by omega)) ?_)
            rintro _ w29n ⟨rfl, s29n, hT29n⟩
            refine ⟨(fun h => by cases h), ?_⟩
            have hTa29n : SStep w28n w29n C (xsAccts x1 s29n) (yb3 ks y t) := SStep.pre (by repeat (first | assumption | exact Ext.refl _ | refine Ext.alloc ?_ _ | refine Ext.drew ?_ | refine Ext.setB ?_ (by first | omega | (simp only [size_alloc, size_setB, size_drew]; omega)) _ | refine Ext.trans ?_ (by assumption))) hT29n
            have hK29n := hTa29n.keep
            have hKO29n := hTa29n.ko
            replace hO := hO.keep hKO29n
            have hSS29n := hTa29n.ss
            have hSb29n := hSS29n.blk
            have hSl29n := hSb29n.lt
            have hz29n := hK29n.sz
            have hzs29n := encYS_size (xsAccts x1 s29n)
            have hEz29n : Ext w0 w29n := ext_keep hEz28n hK29n (fun b e => e ▸ hlow)
            have htx29n := htx0.ext hEz29n
            have hb329n := hb328n.keepO hK29n (fun e => absurd e (by omega))
            have hb3l29n := hb329n.lt
            have hb829n := hb828n.keepO hK29n (fun e => absurd e (by omega))
            have hb8l29n := hb829n.lt
            have hszS29n := encYS_sz (x := xsAccts x1 s29n) hol27 hml27 (by show EvB x1.env; rw [hSS27.rel.env]; exact hSS27.rel.evb)
            have hB29n : PSB (N + 2) (yb3 ks y t) := hB28n.setBal (by omega) t.fr _
            have hEC29n := encYS_env (x := xsAccts x1 s29n) hol27 hml27 (by show EvB x1.env; rw [hSS27.rel.env]; exact hSS27.rel.evb)
            have hkcb29n : Xt (encYS (xsAccts x1 s29n)).toArray (0 + 59 + 0) (0 + 59 + 0 + 20) (ic .u8 y.env.cb) := by have h9 := hEC29n.cb; rw [show (xsAccts x1 s29n).env = y.env from hSS27.rel.env] at h9; exact h9
            refine WH_nil ?_
            refine thn_normal ?_
            refine W_seq ?_
            refine W_drawE [false, false, false, false, false, false] hmix (by kernel_rfl) rfl ?_
            refine WH_p (PS_move_ptr rfl) rfl ?_
            refine WH_p (PS_nilCheck rfl) rfl ?_
            refine WH_p (PS_fieldAddr 0 Hvac.runUnderlying99 rfl Hvac.sizeOf95 rfl rfl) rfl ?_
            refine WH_p (PS_fieldAddr 0 Hvac.runUnderlying35 rfl Hvac.sizeOf25 rfl rfl) rfl ?_
            refine WH_loadA _ Hvac.isAgg25 Hvac.sizeOf25 rfl (Hb.h (by repeat (first | assumption | exact Hb.newY _ _ | refine Hb.alloc ?_ | refine Hb.drew ?_ | refine Hb.ext (by assumption) ?_ | exact Hb.setSameL (by first | omega | (simp only [size_alloc, size_setB, size_drew]; omega)) | exact Hb.setSame (by assumption) | refine Hb.set (by first | omega | (simp only [size_alloc, size_setB, size_drew]; omega)) ?_ ))) (by first | omega | assumption | rfl | decide | exact Nat.le_refl _ | (simp only [size_ic, Value.cells]; omega) | (simp [encWs]; done) | (simp; omega) | simp | exact encYA_sz (by assumption) | exact encYT_sz (by assumption) | exact encYM_sz (by assumption)) (Xt.h (by first | assumption | exact Xt.whole rfl rfl | exact Xt.whole rfl (by assumption) | exact Xt.whole rfl (by simp only [size_ic, Value.cells]; omega) | exact ⟨rfl⟩)) ?_
            refine WH_call Hvac.call27 (by rfl) (Ret.mono (warmS_ (OmB.ext hO (by repeat (first | assumption | exact Ext.refl _ | refine Ext.alloc ?_ _ | refine Ext.drew ?_ | refine Ext.setB ?_ (by first | omega | (simp only [size_alloc, size_setB, size_drew]; omega)) _ | exact Ext.trans (by assumption) (by assumption) | refine Ext.trans ?_ (by assumption)))) (YSS.ext hSS29n (by repeat (first | assumption | exact Ext.refl _ | refine Ext.alloc ?_ _ | refine Ext.drew ?_ | refine Ext.setB ?_ (by first | omega | (simp only [size_alloc, size_setB, size_drew]; omega)) _ | exact Ext.trans (by assumption) (by assumption) | refine Ext.trans ?_ (by assumption)))) hB29n (by omega) htx.fr) ?_)
            rintro _ w29w ⟨rfl, s29w, hT29w⟩
            refine ⟨(fun h => by cases h), ?_⟩
            have hTa29w : SStep w29n w29w C (xsWarmA (xsAccts x1 s29n) s29w) (ysWarmA (yb3 ks y t) (ywith y.now.warmA t.fr)) := SStep.pre (by repeat (first | assumption | exact Ext.refl _ | refine Ext.alloc ?_ _ | refine Ext.drew ?_ | refine Ext.setB ?_ (by first | omega | (simp only [size_alloc, size_setB, size_drew]; omega)) _ | refine Ext.trans ?_ (by assumption))) hT29w
            have hK29w := hTa29w.keep
            have hKO29w := hTa29w.ko
            replace hO := hO.keep hKO29w
            have hSS29w := hTa29w.ss
            have hSb29w := hSS29w.blk
            have hSl29w := hSb29w.lt
            have hz29w := hK29w.sz
            have hzs29w := encYS_size (xsWarmA (xsAccts x1 s29n) s29w)
            have hEz29w : Ext w0 w29w := ext_keep hEz29n hK29w (fun b e => e ▸ hlow)
            have htx29w := htx0.ext hEz29w
            have hb329w := hb329n.keepO hK29w (fun e => absurd e (by omega))
            have hb3l29w := hb329w.lt
            have hb829w := hb829n.keepO hK29w (fun e => absurd e (by omega))
            have hb8l29w := hb829w.lt
            have hszS29w := encYS_sz (x := xsWarmA (xsAccts x1 s29n) s29w) hol27 hml27 (by show EvB x1.env; rw [hSS27.rel.env]; exact hSS27.rel.evb)
            have hB29w : PSB (N + 3) (ysWarmA (yb3 ks y t) (ywith y.now.warmA t.fr)) := hB29n.warmA t.fr
            have hkcb29w : Xt (encYS (xsWarmA (xsAccts x1 s29n) s29w)).toArray (0 + 59 + 0) (0 + 59 + 0 + 20) (ic .u8 y.env.cb) := by have h9 := (encYS_env (x := xsWarmA (xsAccts x1 s29n) s29w) hol27 hml27 (by show EvB x1.env; rw [hSS27.rel.env]; exact hSS27.rel.evb)).cb; rw [show (xsWarmA (xsAccts x1 s29n) s29w).env = y.env from hSS27.rel.env] at h9; exact h9
            refine WH_nil ?_
            refine thn_normal ?_
            refine W_seq ?_
            refine W_drawE [false, false, false, false, false, false, false, false, false] hmix (by kernel_rfl) rfl ?_
            refine WH_p (PS_move_ptr rfl) rfl ?_
            refine WH_p (PS_nilCheck rfl) rfl ?_
            refine WH_p (PS_fieldAddr 0 Hvac.runUnderlying99 rfl Hvac.sizeOf95 rfl rfl) rfl ?_
            refine WH_p (PS_move_ptr rfl) rfl ?_
            refine WH_p (PS_nilCheck rfl) rfl ?_
            refine WH_p (PS_fieldAddr 59 Hvac.runUnderlying99 rfl Hvac.sizeOf31 rfl rfl) rfl ?_
            refine WH_p (PS_fieldAddr 0 Hvac.runUnderlying31 rfl Hvac.sizeOf25 rfl rfl) rfl ?_
            refine WH_loadA _ Hvac.isAgg25 Hvac.sizeOf25 rfl (Hb.h (by repeat (first | assumption | exact Hb.newY _ _ | refine Hb.alloc ?_ | refine Hb.drew ?_ | refine Hb.ext (by assumption) ?_ | exact Hb.setSameL (by first | omega | (simp only [size_alloc, size_setB, size_drew]; omega)) | exact Hb.setSame (by assumption) | refine Hb.set (by first | omega | (simp only [size_alloc, size_setB, size_drew]; omega)) ?_ ))) (by first | omega | assumption | rfl | decide | exact Nat.le_refl _ | (simp only [size_ic, Value.cells]; omega) | (simp [encWs]; done) | (simp; omega) | simp | exact encYA_sz (by assumption) | exact encYT_sz (by assumption) | exact encYM_sz (by assumption)) (Xt.h (by first | assumption | exact Xt.whole rfl rfl | exact Xt.whole rfl (by assumption) | exact Xt.whole rfl (by simp only [size_ic, Value.cells]; omega) | exact ⟨rfl⟩)) ?_
            refine WH_call Hvac.call27 (by rfl) (Ret.mono (warmS_ (OmB.ext hO (by repeat (first | assumption | exact Ext.refl _ | refine Ext.alloc ?_ _ | refine Ext.drew ?_ | refine Ext.setB ?_ (by first | omega | (simp only [size_alloc, size_setB, size_drew]; omega)) _ | exact Ext.trans (by assumption) (by assumption) | refine Ext.trans ?_ (by assumption)))) (YSS.ext hSS29w (by repeat (first | assumption | exact Ext.refl _ | refine Ext.alloc ?_ _ | refine Ext.drew ?_ | refine Ext.setB ?_ (by first | omega | (simp only [size_alloc, size_setB, size_drew]; omega)) _ | exact Ext.trans (by assumption) (by assumption) | refine Ext.trans ?_ (by assumption)))) hB29w (by omega) hS.rel.evb.cb) ?_)
            rintro _ w30w ⟨rfl, s30w, hT30w⟩
            refine ⟨(fun h => by cases h), ?_⟩
            have hTa30w : SStep w29w w30w C (xsWarmA (xsAccts x1 s29n) s30w) (ysWarmA (yb3 ks y t) (ywith (ywith y.now.warmA t.fr) y.env.cb)) := SStep.pre (by repeat (first | assumption | exact Ext.refl _ | refine Ext.alloc ?_ _ | refine Ext.drew ?_ | refine Ext.setB ?_ (by first | omega | (simp only [size_alloc, size_setB, size_drew]; omega)) _ | refine Ext.trans ?_ (by assumption))) hT30w
            have hK30w := hTa30w.keep
            have hKO30w := hTa30w.ko
            replace hO := hO.keep hKO30w
            have hSS30w := hTa30w.ss
            have hSb30w := hSS30w.blk
            have hSl30w := hSb30w.lt
            have hz30w := hK30w.sz
            have hzs30w := encYS_size (xsWarmA (xsAccts x1 s29n) s30w)
            have hEz30w : Ext w0 w30w := ext_keep hEz29w hK30w (fun b e => e ▸ hlow)
            have htx30w := htx0.ext hEz30w
            have hb330w := hb329w.keepO hK30w (fun e => absurd e (by omega))
            have hb3l30w := hb330w.lt
            have hb830w := hb829w.keepO hK30w (fun e => absurd e (by omega))
            have hb8l30w := hb830w.lt
            have hszS30w := encYS_sz (x := xsWarmA (xsAccts x1 s29n) s30w) hol27 hml27 (by show EvB x1.env; rw [hSS27.rel.env]; exact hSS27.rel.evb)
            have hB30w : PSB (N + 4) (ysWarmA (yb3 ks y t) (ywith (ywith y.now.warmA t.fr) y.env.cb)) := hB29w.warmA y.env.cb
            refine WH_nil ?_
            refine thn_normal ?_
            refine W_seq ?_
            refine W_drawE [false, false, false, false, false] hmix (by kernel_rfl) rfl ?_
            refine WH_p (PS_move_ptr rfl) rfl ?_
            refine WH_p (PS_nilCheck rfl) rfl ?_
            refine WH_p (PS_fieldAddr 0 Hvac.runUnderlying99 rfl Hvac.sizeOf95 rfl rfl) rfl ?_
            refine WH_loadA _ Hvac.isAgg25 Hvac.sizeOf25 rfl (Hb.h (by repeat (first | assumption | exact Hb.newY _ _ | refine Hb.alloc ?_ | refine Hb.drew ?_ | refine Hb.ext (by assumption) ?_ | exact Hb.setSameL (by first | omega | (simp only [size_alloc, size_setB, size_drew]; omega)) | exact Hb.setSame (by assumption) | refine Hb.set (by first | omega | (simp only [size_alloc, size_setB, size_drew]; omega)) ?_ ))) (by first | omega | assumption | rfl | decide | exact Nat.le_refl _ | (simp only [size_ic, Value.cells]; omega) | (simp [encWs]; done) | (simp; omega) | simp | exact encYA_sz (by assumption) | exact encYT_sz (by assumption) | exact encYM_sz (by assumption)) (Xt.h (by first | assumption | exact Xt.whole rfl rfl | exact Xt.whole rfl (by assumption) | exact Xt.whole rfl (by simp only [size_ic, Value.cells]; omega) | exact ⟨rfl⟩)) ?_
            refine WH_call Hvac.call27 (by rfl) (Ret.mono (warmS_ (OmB.ext hO (by repeat (first | assumption | exact Ext.refl _ | refine Ext.alloc ?_ _ | refine Ext.drew ?_ | refine Ext.setB ?_ (by first | omega | (simp only [size_alloc, size_setB, size_drew]; omega)) _ | exact Ext.trans (by assumption) (by assumption) | refine Ext.trans ?_ (by assumption)))) (YSS.ext hSS30w (by repeat (first | assumption | exact Ext.refl _ | refine Ext.alloc ?_ _ | refine Ext.drew ?_ | refine Ext.setB ?_ (by first | omega | (simp only [size_alloc, size_setB, size_drew]; omega)) _ | exact Ext.trans (by assumption) (by assumption) | refine Ext.trans ?_ (by assumption)))) hB30w (by omega) hTOb) ?_)
            rintro _ w31w ⟨rfl, s31w, hT31w⟩
            refine ⟨(fun h => by cases h), ?_⟩
            have hTa31w : SStep w30w w31w C (xsWarmA (xsAccts x1 s29n) s31w) (ysWarmA (yb3 ks y t) (ywith (ywith (ywith y.now.warmA t.fr) y.env.cb) (ybTo ks y t))) := SStep.pre (by repeat (first | assumption | exact Ext.refl _ | refine Ext.alloc ?_ _ | refine Ext.drew ?_ | refine Ext.setB ?_ (by first | omega | (simp only [size_alloc, size_setB, size_drew]; omega)) _ | refine Ext.trans ?_ (by assumption))) hT31w
            have hK31w := hTa31w.keep
            have hKO31w := hTa31w.ko
            replace hO := hO.keep hKO31w
            have hSS31w := hTa31w.ss
            have hSb31w := hSS31w.blk
            have hSl31w := hSb31w.lt
            have hz31w := hK31w.sz
            have hzs31w := encYS_size (xsWarmA (xsAccts x1 s29n) s31w)
            have hEz31w : Ext w0 w31w := ext_keep hEz30w hK31w (fun b e => e ▸ hlow)
            have htx31w := htx0.ext hEz31w
            have hb331w := hb330w.keepO hK31w (fun e => absurd e (by omega))
            have hb3l31w := hb331w.lt
            have hb831w := hb830w.keepO hK31w (fun e => absurd e (by omega))
            have hb8l31w := hb831w.lt
            have hszS31w := encYS_sz (x := xsWarmA (xsAccts x1 s29n) s31w) hol27 hml27 (by show EvB x1.env; rw [hSS27.rel.env]; exact hSS27.rel.evb)
            have hB31w : PSB (N + 5) (ysWarmA (yb3 ks y t) (ywith (ywith (ywith y.now.warmA t.fr) y.env.cb) (ybTo ks y t))) := hB30w.warmA (ybTo ks y t)
            refine WH_nil ?_
            refine thn_normal ?_
            refine W_seq ?_
            refine W_region rfl ?_
            refine WO_p (PS_move_ptr rfl) ?_
            refine WO_p (PS_nilCheck rfl) ?_
            refine WO_p (PS_fieldAddr 0 Hvac.runUnderlying99 rfl Hvac.sizeOf95 rfl rfl) ?_
            refine WO_p (PS_buildI (k := .u8) (zs := [0, 0, 0, 0, 0, 0, 0, 0, 0, 0, 0, 0, 0, 0, 0, 0, 0, 0, 0, 0]) (ps := [(19, _)]) (L := [0, 0, 0, 0, 0, 0, 0, 0, 0, 0, 0, 0, 0, 0, 0, 0, 0, 0, 0, _]) Hvac.zeroValue25 Hvac.runUnderlying25 Hvac.sizeOf5 rfl rfl rfl rfl) ?_
            refine WO_call Hvac.call27 (by rfl) (Ret.mono (warmS_ (OmB.ext hO (by repeat (first | assumption | exact Ext.refl _ | refine Ext.alloc ?_ _ | refine Ext.drew ?_ | refine Ext.setB ?_ (by first | omega | (simp only [size_alloc, size_setB, size_drew]; omega)) _ | exact Ext.trans (by assumption) (by assumption) | refine Ext.trans ?_ (by assumption)))) (YSS.ext hSS31w (by repeat (first | assumption | exact Ext.refl _ | refine Ext.alloc ?_ _ | refine Ext.drew ?_ | refine Ext.setB ?_ (by first | omega | (simp only [size_alloc, size_setB, size_drew]; omega)) _ | exact Ext.trans (by assumption) (by assumption) | refine Ext.trans ?_ (by assumption)))) hB31w (by omega) (yad_by 4 (by decide))) ?_)
            rintro _ w32w ⟨rfl, s32w, hT32w⟩
            have hTa32w : SStep w31w w32w C (xsWarmA (xsAccts x1 s29n) s32w) (ysWarmA (yb3 ks y t) (ywith (ywith (ywith (ywith y.now.warmA t.fr) y.env.cb) (ybTo ks y t)) (yad 4))) := SStep.pre (by repeat (first | assumption | exact Ext.refl _ | refine Ext.alloc ?_ _ | refine Ext.drew ?_ | refine Ext.setB ?_ (by first | omega | (simp only [size_alloc, size_setB, size_drew]; omega)) _ | refine Ext.trans ?_ (by assumption))) hT32w
            have hK32w := hTa32w.keep
            have hKO32w := hTa32w.ko
            replace hO := hO.keep hKO32w
            have hSS32w := hTa32w.ss
            have hSb32w := hSS32w.blk
            have hSl32w := hSb32w.lt
            have hz32w := hK32w.sz
            have hzs32w := encYS_size (xsWarmA (xsAccts x1 s29n) s32w)
            have hEz32w : Ext w0 w32w := ext_keep hEz31w hK32w (fun b e => e ▸ hlow)
            have htx32w := htx0.ext hEz32w
            have hb332w := hb331w.keepO hK32w (fun e => absurd e (by omega))
            have hb3l32w := hb332w.lt
            have hb832w := hb831w.keepO hK32w (fun e => absurd e (by omega))
            have hb8l32w := hb832w.lt
            have hszS32w := encYS_sz (x := xsWarmA (xsAccts x1 s29n) s32w) hol27 hml27 (by show EvB x1.env; rw [hSS27.rel.env]; exact hSS27.rel.evb)
            have hB32w : PSB (N + 6) (ysWarmA (yb3 ks y t) (ywith (ywith (ywith (ywith y.now.warmA t.fr) y.env.cb) (ybTo ks y t)) (yad 4))) := hB31w.warmA (yad 4)
            refine WO_nil ?_
            refine thn_normal ?_
            refine W_seqJ (fun ρ w' => ∃ (x1 : YSt), Fr [(3, .pointer (some ⟨b3, 0, none⟩)), (5, .pointer (some ⟨C, 0, none⟩)), (8, .pointer (some ⟨b8, 0, none⟩))] ρ ∧ SStep w w' C x1 (yb4 ks y t) ∧ x1.frames = (none, 0, 0) ∧ x1.now.logs = x.now.logs ∧ Hb w' b3 (.cells (encTx t).toArray 35 (0, 0)) ∧ Hb w' b8 (.cells (ic .u8 (ybTo ks y t)) 25 (0, 0)) ∧ PSB (N + 7) (yb4 ks y t)) ?_ ?_
            · skip
              refine W_region rfl ?_
              refine WO_p (PS_move_ptr rfl) ?_
              refine WO_p (PS_nilCheck rfl) ?_
              refine WO_p (PS_fieldAddr 0 Hvac.runUnderlying99 rfl Hvac.sizeOf95 rfl rfl) ?_
              refine WO_p (PS_buildI (k := .u8) (zs := [0, 0, 0, 0, 0, 0, 0, 0, 0, 0, 0, 0, 0, 0, 0, 0, 0, 0, 0, 0]) (ps := [(19, _)]) (L := [0, 0, 0, 0, 0, 0, 0, 0, 0, 0, 0, 0, 0, 0, 0, 0, 0, 0, 0, _]) Hvac.zeroValue25 Hvac.runUnderlying25 Hvac.sizeOf5 rfl rfl rfl rfl) ?_
              refine WO_call Hvac.call27 (by rfl) (Ret.mono (warmS_ (OmB.ext hO (by repeat (first | assumption | exact Ext.refl _ | refine Ext.alloc ?_ _ | refine Ext.drew ?_ | refine Ext.setB ?_ (by first | omega | (simp only [size_alloc, size_setB, size_drew]; omega)) _ | exact Ext.trans (by assumption) (by assumption) | refine Ext.trans ?_ (by assumption)))) (YSS.ext hSS32w (by repeat (first | assumption | exact Ext.refl _ | refine Ext.alloc ?_ _ | refine Ext.drew ?_ | refine Ext.setB ?_ (by first | omega | (simp only [size_alloc, size_setB, size_drew]; omega)) _ | exact Ext.trans (by assumption) (by assumption) | refine Ext.trans ?_ (by assumption)))) hB32w (by omega) (yad_by 5 (by decide))) ?_)
              rintro _ w33w ⟨rfl, s33w, hT33w⟩
              have hTa33w : SStep w32w w33w C (xsWarmA (xsAccts x1 s29n) s33w) (ysWarmA (yb3 ks y t) (ywith (ywith (ywith (ywith (ywith y.now.warmA t.fr) y.env.cb) (ybTo ks y t)) (yad 4)) (yad 5))) := SStep.pre (by repeat (first | assumption | exact Ext.refl _ | refine Ext.alloc ?_ _ | refine Ext.drew ?_ | refine Ext.setB ?_ (by first | omega | (simp only [size_alloc, size_setB, size_drew]; omega)) _ | refine Ext.trans ?_ (by assumption))) hT33w
              have hK33w := hTa33w.keep
              have hKO33w := hTa33w.ko
              replace hO := hO.keep hKO33w
              have hSS33w := hTa33w.ss
              have hSb33w := hSS33w.blk
              have hSl33w := hSb33w.lt
              have hz33w := hK33w.sz
              have hzs33w := encYS_size (xsWarmA (xsAccts x1 s29n) s33w)
              have hEz33w : Ext w0 w33w := ext_keep hEz32w hK33w (fun b e => e ▸ hlow)
              have htx33w := htx0.ext hEz33w
              have hb333w := hb332w.keepO hK33w (fun e => absurd e (by omega))
              have hb3l33w := hb333w.lt
              have hb833w := hb832w.keepO hK33w (fun e => absurd e (by omega))
              have hb8l33w := hb833w.lt
              have hszS33w := encYS_sz (x := xsWarmA (xsAccts x1 s29n) s33w) hol27 hml27 (by show EvB x1.env; rw [hSS27.rel.env]; exact hSS27.rel.evb)
              have hB33w : PSB (N + 7) (ysWarmA (yb3 ks y t) (ywith (ywith (ywith (ywith (ywith y.now.warmA t.fr) y.env.cb) (ybTo ks y t)) (yad 4)) (yad 5))) := hB32w.warmA (yad 5)
              refine WO_nil ?_
              refine thn_normal ?_
              exact ⟨_, ⟨rfl, rfl, rfl, trivial⟩, (hT27.trans (hTa28n.trans (hTa29n.trans (hTa29w.trans (hTa30w.trans (hTa31w.trans (hTa32w.trans hTa33w))))))).extR (by repeat (first | assumption | exact Ext.refl _ | refine Ext.alloc ?_ _ | refine Ext.drew ?_ | refine Ext.setB ?_ (by first | omega | (simp only [size_alloc, size_setB, size_drew]; omega)) _ | refine Ext.trans ?_ (by assumption))), hxf27, hlg27, Hb.mk (Hb.h (by repeat (first | assumption | exact Hb.newY _ _ | refine Hb.alloc ?_ | refine Hb.drew ?_ | refine Hb.ext (by assumption) ?_ | exact Hb.setSameL (by first | omega | (simp only [size_alloc, size_setB, size_drew]; omega)) | exact Hb.setSame (by assumption) | refine Hb.set (by first | omega | (simp only [size_alloc, size_setB, size_drew]; omega)) ?_ ))), Hb.mk (Hb.h (by repeat (first | assumption | exact Hb.newY _ _ | refine Hb.alloc ?_ | refine Hb.drew ?_ | refine Hb.ext (by assumption) ?_ | exact Hb.setSameL (by first | omega | (simp only [size_alloc, size_setB, size_drew]; omega)) | exact Hb.setSame (by assumption) | refine Hb.set (by first | omega | (simp only [size_alloc, size_setB, size_drew]; omega)) ?_ ))), hB33w⟩
            · rintro ρ34 w34 ⟨x1, hFr34, hT34, hxf34, hlg34, hb334, hb834, hB34⟩
              refine W_env _ hFr34 ?_
              have hSS34 := hT34.ss
              have hSb34 := hSS34.blk
              have hSl34 := hSb34.lt
              have hO34 := hX.omb.keep hT34.keep
              replace hO := hO34
              have hz34 := hT34.keep.sz
              have hb3l34 := hb334.lt
              have hb8l34 := hb834.lt
              have hol34 : x1.origin.length = 20 := by rw [hSS34.rel.origin]; exact hSS34.rel.ob.1
              have hml34 : x1.made.length = 20 := by rw [hSS34.rel.made]; exact hSS34.rel.mb.1
              have hzs34 := encYS_size x1
              have hszS34 := encYS_sz hol34 hml34 (by rw [hSS34.rel.env]; exact hSS34.rel.evb)
              have hEz34 : Ext w0 w34 := ext_keep he0 hT34.keep (fun b e => e ▸ hlow)
              have htx34 := htx0.ext hEz34
              have hac := hat.acY
              generalize hpst : t.acc.1 = pst at hac
              have hacl := htx0.acY.len
              have hl16 := hV.lk.a
              refine W_seqJ (fun ρ w' => ∃ (x1 : YSt), Fr [(3, .pointer (some ⟨b3, 0, none⟩)), (5, .pointer (some ⟨C, 0, none⟩)), (8, .pointer (some ⟨b8, 0, none⟩))] ρ ∧ SStep w w' C x1 (yaxs (yb4 ks y t) t.al) ∧ x1.frames = (none, 0, 0) ∧ x1.now.logs = x.now.logs ∧ Hb w' b3 (.cells (encTx t).toArray 35 (0, 0)) ∧ Hb w' b8 (.cells (ic .u8 (ybTo ks y t)) 25 (0, 0)) ∧ PSB (N + 90) (yaxs (yb4 ks y t) t.al)) ?_ ?_
              · skip
                refine W_seq ?_
                refine W_region rfl ?_
                refine WO_p (PS_fieldAddr 173 Hvac.runUnderlying35 rfl Hvac.sizeOf33 rfl rfl) ?_
                refine WO_load (.slice _ _ _) Hvac.isAgg33 rfl (Hb.h (by repeat (first | assumption | exact Hb.newY _ _ | refine Hb.alloc ?_ | refine Hb.drew ?_ | refine Hb.ext (by assumption) ?_ | exact Hb.setSameL (by first | omega | (simp only [size_alloc, size_setB, size_drew]; omega)) | exact Hb.setSame (by assumption) | refine Hb.set (by first | omega | (simp only [size_alloc, size_setB, size_drew]; omega)) ?_ ))) (Ce.h (by first | assumption | exact ⟨rfl⟩)) ?_
                refine WO_p (PS_lenS Hvac.runUnderlying33 rfl) ?_
                refine WO_p (PS_move_int rfl) ?_
                refine WO_nil ?_
                refine thn_normal ?_
                refine W_block ?_
                refine W_loopN (fun m ρ w' => ∃ (i : Nat) (x2 : YSt), i + m = t.al.length ∧ SStep w w' C x2 (yaxs (yb4 ks y t) (t.al.take i)) ∧ x2.frames = (none, 0, 0) ∧ x2.now.logs = x.now.logs ∧ PSB (N + 7 + i + ksum t.al i) (yaxs (yb4 ks y t) (t.al.take i)) ∧ Fr [(3, .pointer (some ⟨b3, 0, none⟩)), (5, .pointer (some ⟨C, 0, none⟩)), (8, .pointer (some ⟨b8, 0, none⟩)), (184, .slice pst t.acc.2.1 t.acc.2.2), (185, .int .i64 t.acc.2.1), (186, .int .i64 i)] ρ ∧ Hb w' b3 (.cells (encTx t).toArray 35 (0, 0)) ∧ Hb w' b8 (.cells (ic .u8 (ybTo ks y t)) 25 (0, 0))) t.al.length ?_ ?_
                · exact ⟨0, x1, by omega, hT34, hxf34, hlg34, hB34, ⟨rfl, rfl, rfl, rfl, rfl, rfl, trivial⟩, hb334, hb834⟩
                intro mA ρA wA hIA
                obtain ⟨i, x2, hiA, hTA, hxfA, hlgA, hBA, hFA, hb3A, hb8A⟩ := hIA
                refine W_env _ hFA ?_
                have hSSA := hTA.ss
                have hSbA := hSSA.blk
                have hSlA := hSbA.lt
                replace hO := hX.omb.keep hTA.keep
                have hzA := hTA.keep.sz
                have hb3lA := hb3A.lt
                have hb8lA := hb8A.lt
                have hEzA : Ext w0 wA := ext_keep he0 hTA.keep (fun b e => e ▸ hlow)
                have htxA := htx0.ext hEzA
                have hzsA := encYS_size x2
                refine W_seq ?_
                refine W_region rfl ?_
                refine WO_p (PS_lss rfl rfl) ?_
                refine WO_nil ?_
                refine thn_normal ?_
                refine W_seq ?_
                refine W_if rfl (fun hb29 => ?_) (fun hb29 => ?_)
                · have hb29p := hb29.h; try simp only [al_ete, al_dfn, Bool.not_eq_true', Bool.not_eq_false', al_ne, Bool.not_not, al_nn] at hb29p
                  have hiz : i < t.al.length := by omega
                  obtain ⟨xx, hx⟩ : ∃ xx, t.al[i]? = some xx := ⟨_, List.getElem?_eq_getElem hiz⟩
                  obtain ⟨bx, ox, rx, Tx_, fzx, hpx, hbx, hrlx⟩ := htxA.acY.get hx
                  rw [hpst] at hpx
                  subst hpx
                  have hxk := htxA.ar xx (List.mem_of_getElem? hx)
                  have hxbd := hrlx.bd hx
                  have hxw := hrlx.ext hx (k := 0) (n := 21) (by decide) (ax_whole hxk) (encAx_len hxk)
                  have hel21 : (encAx xx).toArray.size = 21 := by simpa using encAx_len hxk
                  have hck := axKeys hxk
                  have hkl := hxk.ks.len
                  have hgx : t.al.getD i ⟨[], (none, 0, 0), []⟩ = xx := getD_some hx
                  have hks1 : ksum t.al (i + 1) = ksum t.al i + xx.kl.length := by show ksum t.al i + (t.al.getD i ⟨[], (none, 0, 0), []⟩).kl.length = _; rw [hgx]
                  have hks64 := hV.lk.k (i + 1) (by omega)
                  have hcka := axAddr hxk
                  have hxkl := hxk.ad.1
                  have hyx : yaxs (yb4 ks y t) (t.al.take (i + 1)) = ysWarmS (ysWarmA (yaxs (yb4 ks y t) (t.al.take i)) (ywith (yaxs (yb4 ks y t) (t.al.take i)).now.warmA xx.addr)) (yaxK (yaxs (yb4 ks y t) (t.al.take i)).now.warmS xx.addr xx.kl) := by rw [take_sn hx, yaxs_snoc]
                  generalize hpkt : xx.keys.1 = pk at hck
                  refine W_skip ?_
                  refine thn_normal ?_
                  refine W_seq ?_
                  refine W_block ?_
                  refine W_seq ?_
                  refine W_region rfl ?_
                  refine WO_p (PS_indexS Hvac.runUnderlying33 Hvac.sizeOf117 rfl rfl (by omega) (by omega)) ?_
                  refine WO_loadA _ Hvac.isAgg117 Hvac.sizeOf117 rfl (Hb.h (by repeat (first | assumption | exact Hb.newY _ _ | refine Hb.alloc ?_ | refine Hb.drew ?_ | refine Hb.ext (by assumption) ?_ | exact Hb.setSameL (by first | omega | (simp only [size_alloc, size_setB, size_drew]; omega)) | exact Hb.setSame (by assumption) | refine Hb.set (by first | omega | (simp only [size_alloc, size_setB, size_drew]; omega)) ?_ ))) (by first | omega | assumption | rfl | decide | exact Nat.le_refl _ | (simp only [size_ic, Value.cells]; omega) | (simp [encWs]; done) | (simp; omega) | simp | exact encYA_sz (by assumption) | exact encYT_sz (by assumption) | exact encYM_sz (by assumption)) (Xt.h (by first | assumption | exact Xt.whole rfl rfl | exact Xt.whole rfl (by assumption) | exact Xt.whole rfl (by simp only [size_ic, Value.cells]; omega) | exact ⟨rfl⟩)) ?_
                  refine WO_allocG Hvac.zeroValue117 ?_
                  intro b14 v14 hg14 hE14 hH14 hl14
                  try simp only [size_alloc, size_setB, size_drew] at hg14
                  have hzz14 := hE14.1
                  try simp only [size_alloc, size_setB, size_drew] at hzz14
                  refine WO_storeW Hvac.sizeOf117 rfl (v := .agg (encAx xx).toArray) rfl hH14.h rfl hel21 (by rfl) (one_encAx xx) ?_
                  refine WO_nil ?_
                  refine thn_normal ?_
                  refine W_seq ?_
                  refine W_gen fun wM hwM => ?_
                  have hEM : Ext wA wM := by rw [hwM]; exact (by repeat (first | assumption | exact Ext.refl _ | refine Ext.alloc ?_ _ | refine Ext.drew ?_ | refine Ext.setB ?_ (by first | omega | (simp only [size_alloc, size_setB, size_drew]; omega)) _ | refine Ext.trans ?_ (by assumption)))
                  have hb14M : Hb wM b14 (.cells (encAx xx).toArray 117 (0, 0)) := by rw [hwM]; exact Hb.mk (Hb.h (by repeat (first | assumption | exact Hb.newY _ _ | refine Hb.alloc ?_ | refine Hb.drew ?_ | refine Hb.ext (by assumption) ?_ | exact Hb.setSameL (by first | omega | (simp only [size_alloc, size_setB, size_drew]; omega)) | exact Hb.setSame (by assumption) | refine Hb.set (by first | omega | (simp only [size_alloc, size_setB, size_drew]; omega)) ?_ )))
                  clear hwM
                  have hzM := hEM.1
                  have hb14lM := hb14M.lt
                  have hb3M := hb3A.ext hEM
                  have hb8M := hb8A.ext hEM
                  have hSSM := hSSA.ext hEM
                  have hSbM := hSSM.blk
                  have hSlM := hSbM.lt
                  have hTM := hTA.extR hEM
                  have hg14A : w.heap.size ≤ b14 := by omega
                  have hne3 : b3 ≠ b14 := by omega
                  have hne8 : b8 ≠ b14 := by omega
                  have hneC : C ≠ b14 := by omega
                  replace hO := hO.ext hEM
                  refine W_drawE [false, false, false, false, false, false] hmix (by kernel_rfl) rfl ?_
                  refine WH_p (PS_move_ptr rfl) rfl ?_
                  refine WH_p (PS_nilCheck rfl) rfl ?_
                  refine WH_p (PS_fieldAddr 0 Hvac.runUnderlying99 rfl Hvac.sizeOf95 rfl rfl) rfl ?_
                  refine WH_p (PS_fieldAddr 0 Hvac.runUnderlying117 rfl Hvac.sizeOf25 rfl rfl) rfl ?_
                  refine WH_loadA _ Hvac.isAgg25 Hvac.sizeOf25 rfl (Hb.h (by repeat (first | assumption | exact Hb.newY _ _ | refine Hb.alloc ?_ | refine Hb.drew ?_ | refine Hb.ext (by assumption) ?_ | exact Hb.setSameL (by first | omega | (simp only [size_alloc, size_setB, size_drew]; omega)) | exact Hb.setSame (by assumption) | refine Hb.set (by first | omega | (simp only [size_alloc, size_setB, size_drew]; omega)) ?_ ))) (by first | omega | assumption | rfl | decide | exact Nat.le_refl _ | (simp only [size_ic, Value.cells]; omega) | (simp [encWs]; done) | (simp; omega) | simp | exact encYA_sz (by assumption) | exact encYT_sz (by assumption) | exact encYM_sz (by assumption)) (Xt.h (by first | assumption | exact Xt.whole rfl rfl | exact Xt.whole rfl (by assumption) | exact Xt.whole rfl (by simp only [size_ic, Value.cells]; omega) | exact ⟨rfl⟩)) ?_
                  refine WH_call Hvac.call27 (by rfl) (Ret.mono (warmS_ (OmB.ext hO (by repeat (first | assumption | exact Ext.refl _ | refine Ext.alloc ?_ _ | refine Ext.drew ?_ | refine Ext.setB ?_ (by first | omega | (simp only [size_alloc, size_setB, size_drew]; omega)) _ | exact Ext.trans (by assumption) (by assumption) | refine Ext.trans ?_ (by assumption)))) (YSS.ext hSSM (by repeat (first | assumption | exact Ext.refl _ | refine Ext.alloc ?_ _ | refine Ext.drew ?_ | refine Ext.setB ?_ (by first | omega | (simp only [size_alloc, size_setB, size_drew]; omega)) _ | exact Ext.trans (by assumption) (by assumption) | refine Ext.trans ?_ (by assumption)))) hBA (by omega) hxk.ad) ?_)
                  rintro _ w37w ⟨rfl, s37w, hT37w⟩
                  refine ⟨(fun h => by cases h), ?_⟩
                  have hTa37 : SStep wM w37w C (xsWarmA x2 s37w) (ysWarmA (yaxs (yb4 ks y t) (t.al.take i)) (ywith (yaxs (yb4 ks y t) (t.al.take i)).now.warmA xx.addr)) := SStep.pre (by repeat (first | assumption | exact Ext.refl _ | refine Ext.alloc ?_ _ | refine Ext.drew ?_ | refine Ext.setB ?_ (by first | omega | (simp only [size_alloc, size_setB, size_drew]; omega)) _ | refine Ext.trans ?_ (by assumption))) hT37w
                  have hK37 := hTa37.keep
                  have hTw37 : SStep w w37w C (xsWarmA x2 s37w) (ysWarmA (yaxs (yb4 ks y t) (t.al.take i)) (ywith (yaxs (yb4 ks y t) (t.al.take i)).now.warmA xx.addr)) := hTM.trans hTa37
                  have hB37 : PSB (N + 7 + i + ksum t.al i + 1) (ysWarmA (yaxs (yb4 ks y t) (t.al.take i)) (ywith (yaxs (yb4 ks y t) (t.al.take i)).now.warmA xx.addr)) := hBA.warmA xx.addr
                  have hb337 := hb3M.keepO hK37 (fun e => absurd e (by omega))
                  have hb837 := hb8M.keepO hK37 (fun e => absurd e (by omega))
                  have hb1437 := hb14M.keepO hK37 (fun e => absurd e (by omega))
                  have hb14l37 := hb1437.lt
                  have hz37 := hK37.sz
                  have hEz37 : Ext w0 w37w := ext_keep he0 hTw37.keep (fun b e => e ▸ hlow)
                  have hb3l37 := hb337.lt
                  have hb8l37 := hb837.lt
                  refine WH_nil ?_
                  refine thn_normal ?_
                  refine W_seq ?_
                  refine W_region rfl ?_
                  refine WO_p (PS_fieldAddr 20 Hvac.runUnderlying117 rfl Hvac.sizeOf29 rfl rfl) ?_
                  refine WO_load (.slice _ _ _) Hvac.isAgg29 rfl (Hb.h (by repeat (first | assumption | exact Hb.newY _ _ | refine Hb.alloc ?_ | refine Hb.drew ?_ | refine Hb.ext (by assumption) ?_ | exact Hb.setSameL (by first | omega | (simp only [size_alloc, size_setB, size_drew]; omega)) | exact Hb.setSame (by assumption) | refine Hb.set (by first | omega | (simp only [size_alloc, size_setB, size_drew]; omega)) ?_ ))) (Ce.h (by first | assumption | exact ⟨rfl⟩)) ?_
                  refine WO_p (PS_lenS Hvac.runUnderlying29 rfl) ?_
                  refine WO_p (PS_move_int rfl) ?_
                  refine WO_nil ?_
                  refine thn_normal ?_
                  refine W_block ?_
                  refine W_loopN (fun m ρ w' => ∃ (j : Nat) (x3_ : YSt), j + m = xx.kl.length ∧ SStep w w' C x3_ (ysWarmS (ysWarmA (yaxs (yb4 ks y t) (t.al.take i)) (ywith (yaxs (yb4 ks y t) (t.al.take i)).now.warmA xx.addr)) (yaxK (yaxs (yb4 ks y t) (t.al.take i)).now.warmS xx.addr (xx.kl.take j))) ∧ x3_.frames = (none, 0, 0) ∧ x3_.now.logs = x.now.logs ∧ PSB (N + 8 + i + ksum t.al i + j) (ysWarmS (ysWarmA (yaxs (yb4 ks y t) (t.al.take i)) (ywith (yaxs (yb4 ks y t) (t.al.take i)).now.warmA xx.addr)) (yaxK (yaxs (yb4 ks y t) (t.al.take i)).now.warmS xx.addr (xx.kl.take j))) ∧ Fr [(3, .pointer (some ⟨b3, 0, none⟩)), (5, .pointer (some ⟨C, 0, none⟩)), (8, .pointer (some ⟨b8, 0, none⟩)), (14, .pointer (some ⟨b14, 0, none⟩)), (184, .slice (some ⟨bx, ox, none⟩) t.acc.2.1 t.acc.2.2), (185, .int .i64 t.acc.2.1), (186, .int .i64 i), (197, .slice pk xx.keys.2.1 xx.keys.2.2), (198, .int .i64 xx.keys.2.1), (199, .int .i64 j)] ρ ∧ Hb w' b3 (.cells (encTx t).toArray 35 (0, 0)) ∧ Hb w' b8 (.cells (ic .u8 (ybTo ks y t)) 25 (0, 0)) ∧ Hb w' b14 (.cells (encAx xx).toArray 117 (0, 0))) xx.kl.length ?_ ?_
                  · exact ⟨0, xsWarmA x2 s37w, by omega, hTw37.extR (by repeat (first | assumption | exact Ext.refl _ | refine Ext.alloc ?_ _ | refine Ext.drew ?_ | refine Ext.setB ?_ (by first | omega | (simp only [size_alloc, size_setB, size_drew]; omega)) _ | refine Ext.trans ?_ (by assumption))), hxfA, hlgA, hB37.mono (by omega), ⟨rfl, rfl, rfl, rfl, rfl, rfl, rfl, rfl, rfl, rfl, trivial⟩, Hb.mk (Hb.h (by repeat (first | assumption | exact Hb.newY _ _ | refine Hb.alloc ?_ | refine Hb.drew ?_ | refine Hb.ext (by assumption) ?_ | exact Hb.setSameL (by first | omega | (simp only [size_alloc, size_setB, size_drew]; omega)) | exact Hb.setSame (by assumption) | refine Hb.set (by first | omega | (simp only [size_alloc, size_setB, size_drew]; omega)) ?_ ))), Hb.mk (Hb.h (by repeat (first | assumption | exact Hb.newY _ _ | refine Hb.alloc ?_ | refine Hb.drew ?_ | refine Hb.ext (by assumption) ?_ | exact Hb.setSameL (by first | omega | (simp only [size_alloc, size_setB, size_drew]; omega)) | exact Hb.setSame (by assumption) | refine Hb.set (by first | omega | (simp only [size_alloc, size_setB, size_drew]; omega)) ?_ ))), Hb.mk (Hb.h (by repeat (first | assumption | exact Hb.newY _ _ | refine Hb.alloc ?_ | refine Hb.drew ?_ | refine Hb.ext (by assumption) ?_ | exact Hb.setSameL (by first | omega | (simp only [size_alloc, size_setB, size_drew]; omega)) | exact Hb.setSame (by assumption) | refine Hb.set (by first | omega | (simp only [size_alloc, size_setB, size_drew]; omega)) ?_ )))⟩
                  intro mK ρK wK hIK
                  obtain ⟨j, x3_, hjK, hTK, hxfK, hlgK, hBK, hFK, hb3K, hb8K, hb14K⟩ := hIK
                  refine W_env _ hFK ?_
                  have hSSK := hTK.ss
                  have hSbK := hSSK.blk
                  have hSlK := hSbK.lt
                  replace hO := hX.omb.keep hTK.keep
                  have hzK := hTK.keep.sz
                  have hb3lK := hb3K.lt
                  have hb8lK := hb8K.lt
                  have hb14lK := hb14K.lt
                  have hEzK : Ext w0 wK := ext_keep he0 hTK.keep (fun b e => e ▸ hlow)
                  have hzsK := encYS_size x3_
                  refine W_seq ?_
                  refine W_region rfl ?_
                  refine WO_p (PS_lss rfl rfl) ?_
                  refine WO_nil ?_
                  refine thn_normal ?_
                  refine W_seq ?_
                  refine W_if rfl (fun hb32 => ?_) (fun hb32 => ?_)
                  · have hb32p := hb32.h; try simp only [al_ete, al_dfn, Bool.not_eq_true', Bool.not_eq_false', al_ne, Bool.not_not, al_nn] at hb32p
                    have hjz : j < xx.kl.length := by omega
                    obtain ⟨kk, hkk⟩ : ∃ kk, xx.kl[j]? = some kk := ⟨_, List.getElem?_eq_getElem hjz⟩
                    obtain ⟨bk, ok, rk, Tk, fzk, hpk, hbk, hrlk⟩ := (htx0.ar xx (List.mem_of_getElem? hx)).ks.get hkk
                    rw [hpkt] at hpk
                    subst hpk
                    have hbkK := hbk.ext hEzK
                    have hkkb := hxk.kb kk (List.mem_of_getElem? hkk)
                    have hkkl := hkkb.1
                    have hkbd := hrlk.bd hkk
                    have hkw : Xt rk (ok + j * 32) (ok + j * 32 + 32) (ic .u8 kk) := by
                      have h9 := hrlk.ext hkk (k := 0) (n := 32) (by decide) (vs := kk.map (Value.int .u8)) (by simp only [encH, List.drop_zero]; exact List.take_of_length_le (by simp [hkkl])) (by simp [encH, hkkl])
                      simpa [ic] using h9
                    have hzkk : sz (bvY kk) ≤ 32 := by have := sz_le (bv_lt hkkb.2); rwa [hkkl] at this
                    refine W_skip ?_
                    refine thn_normal ?_
                    refine W_seq ?_
                    refine W_block ?_
                    refine W_seq ?_
                    refine W_region rfl ?_
                    refine WO_p (PS_indexS Hvac.runUnderlying29 Hvac.sizeOf28 rfl rfl (by omega) (by omega)) ?_
                    refine WO_loadA _ Hvac.isAgg28 Hvac.sizeOf28 rfl (Hb.h (by repeat (first | assumption | exact Hb.newY _ _ | refine Hb.alloc ?_ | refine Hb.drew ?_ | refine Hb.ext (by assumption) ?_ | exact Hb.setSameL (by first | omega | (simp only [size_alloc, size_setB, size_drew]; omega)) | exact Hb.setSame (by assumption) | refine Hb.set (by first | omega | (simp only [size_alloc, size_setB, size_drew]; omega)) ?_ ))) (by first | omega | assumption | rfl | decide | exact Nat.le_refl _ | (simp only [size_ic, Value.cells]; omega) | (simp [encWs]; done) | (simp; omega) | simp | exact encYA_sz (by assumption) | exact encYT_sz (by assumption) | exact encYM_sz (by assumption)) (Xt.h (by first | assumption | exact Xt.whole rfl rfl | exact Xt.whole rfl (by assumption) | exact Xt.whole rfl (by simp only [size_ic, Value.cells]; omega) | exact ⟨rfl⟩)) ?_
                    refine WO_allocG Hvac.zeroValue28 ?_
                    intro b16 v16 hg16 hE16 hH16 hl16
                    try simp only [size_alloc, size_setB, size_drew] at hg16
                    have hzz16 := hE16.1
                    try simp only [size_alloc, size_setB, size_drew] at hzz16
                    replace hH16 : Hb v16 b16 (.cells (ic .u8 (List.replicate 32 0)) 28 (0, 0)) := hH16
                    first | refine WO_storeW Hvac.sizeOf28 rfl (v := .agg _) rfl (Hb.h (by repeat (first | assumption | exact Hb.newY _ _ | refine Hb.alloc ?_ | refine Hb.drew ?_ | refine Hb.ext (by assumption) ?_ | exact Hb.setSameL (by first | omega | (simp only [size_alloc, size_setB, size_drew]; omega)) | exact Hb.setSame (by assumption) | refine Hb.set (by first | omega | (simp only [size_alloc, size_setB, size_drew]; omega)) ?_ ))) rfl (by first | omega | assumption | rfl | decide | exact Nat.le_refl _ | (simp only [size_ic, Value.cells]; omega) | (simp [encWs]; done) | (simp; omega) | simp | exact encYA_sz (by assumption) | exact encYT_sz (by assumption) | exact encYM_sz (by assumption)) (by first | omega | assumption | rfl | decide | exact Nat.le_refl _ | (simp only [size_ic, Value.cells]; omega) | (simp [encWs]; done) | (simp; omega) | simp | exact encYA_sz (by assumption) | exact encYT_sz (by assumption) | exact encYM_sz (by assumption)) (by first | exact oneCell_ic | assumption | exact one_Ws2 _ | exact one_YA2 _ | exact one_YSl2 _ | exact one_YM2 _ | exact one_YT2 _ | exact one_L2 _) ?_ | refine WO_store Hvac.sizeOf28 rfl (v := .agg _) rfl (Hb.h (by repeat (first | assumption | exact Hb.newY _ _ | refine Hb.alloc ?_ | refine Hb.drew ?_ | refine Hb.ext (by assumption) ?_ | exact Hb.setSameL (by first | omega | (simp only [size_alloc, size_setB, size_drew]; omega)) | exact Hb.setSame (by assumption) | refine Hb.set (by first | omega | (simp only [size_alloc, size_setB, size_drew]; omega)) ?_ ))) (by first | omega | assumption | rfl | decide | exact Nat.le_refl _ | (simp only [size_ic, Value.cells]; omega) | (simp [encWs]; done) | (simp; omega) | simp | exact encYA_sz (by assumption) | exact encYT_sz (by assumption) | exact encYM_sz (by assumption)) (by first | omega | assumption | rfl | decide | exact Nat.le_refl _ | (simp only [size_ic, Value.cells]; omega) | (simp [encWs]; done) | (simp; omega) | simp | exact encYA_sz (by assumption) | exact encYT_sz (by assumption) | exact encYM_sz (by assumption)) (by first | exact oneCell_ic | assumption | exact one_Ws2 _ | exact one_YA2 _ | exact one_YSl2 _ | exact one_YM2 _ | exact one_YT2 _ | exact one_L2 _) ?_
                    refine WO_nil ?_
                    refine thn_normal ?_
                    refine W_drawE [false, false, false, false, false, false, true, false] hmix (by kernel_rfl) rfl ?_
                    refine WH_p (PS_move_ptr rfl) rfl ?_
                    refine WH_p (PS_nilCheck rfl) rfl ?_
                    refine WH_p (PS_fieldAddr 0 Hvac.runUnderlying99 rfl Hvac.sizeOf95 rfl rfl) rfl ?_
                    refine WH_p (PS_fieldAddr 0 Hvac.runUnderlying117 rfl Hvac.sizeOf25 rfl rfl) rfl ?_
                    refine WH_loadA _ Hvac.isAgg25 Hvac.sizeOf25 rfl (Hb.h (by repeat (first | assumption | exact Hb.newY _ _ | refine Hb.alloc ?_ | refine Hb.drew ?_ | refine Hb.ext (by assumption) ?_ | exact Hb.setSameL (by first | omega | (simp only [size_alloc, size_setB, size_drew]; omega)) | exact Hb.setSame (by assumption) | refine Hb.set (by first | omega | (simp only [size_alloc, size_setB, size_drew]; omega)) ?_ ))) (by first | omega | assumption | rfl | decide | exact Nat.le_refl _ | (simp only [size_ic, Value.cells]; omega) | (simp [encWs]; done) | (simp; omega) | simp | exact encYA_sz (by assumption) | exact encYT_sz (by assumption) | exact encYM_sz (by assumption)) (Xt.h (by first | assumption | exact Xt.whole rfl rfl | exact Xt.whole rfl (by assumption) | exact Xt.whole rfl (by simp only [size_ic, Value.cells]; omega) | exact ⟨rfl⟩)) ?_
                    refine WH_p (PS_slA Hvac.runUnderlying28 Hvac.sizeOf5 rfl (by omega)) rfl ?_
                    refine WH_call Hvac.call29 (by rfl) (Ret.mono (nBE_spec (OmB.ext hO (by repeat (first | assumption | exact Ext.refl _ | refine Ext.alloc ?_ _ | refine Ext.drew ?_ | refine Ext.setB ?_ (by first | omega | (simp only [size_alloc, size_setB, size_drew]; omega)) _ | exact Ext.trans (by assumption) (by assumption) | refine Ext.trans ?_ (by assumption)))) (AB.all (Hb.mk (Hb.h (by repeat (first | assumption | exact Hb.newY _ _ | refine Hb.alloc ?_ | refine Hb.drew ?_ | refine Hb.ext (by assumption) ?_ | exact Hb.setSameL (by first | omega | (simp only [size_alloc, size_setB, size_drew]; omega)) | exact Hb.setSame (by assumption) | refine Hb.set (by first | omega | (simp only [size_alloc, size_setB, size_drew]; omega)) ?_ )))) hkkb.2 hkkl) (by omega)) ?_)
                    rintro _ w29_32 ⟨hE29_32, s29_32, rfl, hN29_32⟩
                    refine ⟨fun _ => (by repeat (first | assumption | exact Ext.refl _ | refine Ext.alloc ?_ _ | refine Ext.drew ?_ | refine Ext.setB ?_ (by first | omega | (simp only [size_alloc, size_setB, size_drew]; omega)) _ | exact Ext.trans (by assumption) (by assumption) | refine Ext.trans ?_ (by assumption))), ?_⟩
                    have hz29_32 := hE29_32.1
                    try simp only [size_alloc, size_setB, size_drew] at hz29_32
                    refine WH_call Hvac.call28 (by rfl) (Ret.mono (warmSlotS (OmB.ext hO (by repeat (first | assumption | exact Ext.refl _ | refine Ext.alloc ?_ _ | refine Ext.drew ?_ | refine Ext.setB ?_ (by first | omega | (simp only [size_alloc, size_setB, size_drew]; omega)) _ | exact Ext.trans (by assumption) (by assumption) | refine Ext.trans ?_ (by assumption)))) (YSS.ext hSSK (by repeat (first | assumption | exact Ext.refl _ | refine Ext.alloc ?_ _ | refine Ext.drew ?_ | refine Ext.setB ?_ (by first | omega | (simp only [size_alloc, size_setB, size_drew]; omega)) _ | exact Ext.trans (by assumption) (by assumption) | refine Ext.trans ?_ (by assumption)))) hBK (by omega) hxk.ad (by first | exact NN.nil _ | assumption | exact NN.ext (by assumption) (by repeat (first | assumption | exact Ext.refl _ | refine Ext.alloc ?_ _ | refine Ext.drew ?_ | refine Ext.setB ?_ (by first | omega | (simp only [size_alloc, size_setB, size_drew]; omega)) _ | exact Ext.trans (by assumption) (by assumption) | refine Ext.trans ?_ (by assumption)))) hzkk) ?_)
                    rintro _ w41w ⟨rfl, s41w, hT41w⟩
                    refine ⟨(fun h => by cases h), ?_⟩
                    have hTa41 : SStep wK w41w C (xsWarmS x3_ s41w) (ysWarmS (ysWarmS (ysWarmA (yaxs (yb4 ks y t) (t.al.take i)) (ywith (yaxs (yb4 ks y t) (t.al.take i)).now.warmA xx.addr)) (yaxK (yaxs (yb4 ks y t) (t.al.take i)).now.warmS xx.addr (xx.kl.take j))) (ymk (ysWarmS (ysWarmA (yaxs (yb4 ks y t) (t.al.take i)) (ywith (yaxs (yb4 ks y t) (t.al.take i)).now.warmA xx.addr)) (yaxK (yaxs (yb4 ks y t) (t.al.take i)).now.warmS xx.addr (xx.kl.take j))).now.warmS xx.addr (bvY kk))) := SStep.pre (by repeat (first | assumption | exact Ext.refl _ | refine Ext.alloc ?_ _ | refine Ext.drew ?_ | refine Ext.setB ?_ (by first | omega | (simp only [size_alloc, size_setB, size_drew]; omega)) _ | refine Ext.trans ?_ (by assumption))) hT41w
                    have hK41 := hTa41.keep
                    have hb341 := hb3K.keepO hK41 (fun e => absurd e (by omega))
                    have hb841 := hb8K.keepO hK41 (fun e => absurd e (by omega))
                    have hb1441 := hb14K.keepO hK41 (fun e => absurd e (by omega))
                    have hyk : yaxK (yaxs (yb4 ks y t) (t.al.take i)).now.warmS xx.addr (xx.kl.take (j + 1)) = ymk (yaxK (yaxs (yb4 ks y t) (t.al.take i)).now.warmS xx.addr (xx.kl.take j)) xx.addr (bvY kk) := by rw [take_sn hkk, yaxK_snoc]
                    refine WH_nil ?_
                    refine inBlk_normal ?_
                    refine thn_normal ?_
                    refine W_region rfl ?_
                    refine WO_p (PS_add_i64n rfl rfl (by omega) (by omega)) ?_
                    refine WO_p (PS_move_int rfl) ?_
                    refine WO_nil ?_
                    refine thn_normal ?_
                    exact ⟨mK - 1, by omega, j + 1, xsWarmS x3_ s41w, by omega, by rw [hyk]; exact (hTK.trans hTa41).extR (by repeat (first | assumption | exact Ext.refl _ | refine Ext.alloc ?_ _ | refine Ext.drew ?_ | refine Ext.setB ?_ (by first | omega | (simp only [size_alloc, size_setB, size_drew]; omega)) _ | exact Ext.trans (by assumption) (by assumption) | refine Ext.trans ?_ (by assumption))), hxfK, hlgK, by rw [hyk]; exact (hBK.warmS xx.addr (bvY kk)).mono (by omega), ⟨rfl, rfl, rfl, rfl, rfl, rfl, rfl, rfl, rfl, congrArg (Value.int .i64) (by omega), trivial⟩, Hb.mk (Hb.h (by repeat (first | assumption | exact Hb.newY _ _ | refine Hb.alloc ?_ | refine Hb.drew ?_ | refine Hb.ext (by assumption) ?_ | exact Hb.setSameL (by first | omega | (simp only [size_alloc, size_setB, size_drew]; omega)) | exact Hb.setSame (by assumption) | refine Hb.set (by first | omega | (simp only [size_alloc, size_setB, size_drew]; omega)) ?_ ))), Hb.mk (Hb.h (by repeat (first | assumption | exact Hb.newY _ _ | refine Hb.alloc ?_ | refine Hb.drew ?_ | refine Hb.ext (by assumption) ?_ | exact Hb.setSameL (by first | omega | (simp only [size_alloc, size_setB, size_drew]; omega)) | exact Hb.setSame (by assumption) | refine Hb.set (by first | omega | (simp only [size_alloc, size_setB, size_drew]; omega)) ?_ ))), Hb.mk (Hb.h (by repeat (first | assumption | exact Hb.newY _ _ | refine Hb.alloc ?_ | refine Hb.drew ?_ | refine Hb.ext (by assumption) ?_ | exact Hb.setSameL (by first | omega | (simp only [size_alloc, size_setB, size_drew]; omega)) | exact Hb.setSame (by assumption) | refine Hb.set (by first | omega | (simp only [size_alloc, size_setB, size_drew]; omega)) ?_ )))⟩
                  · have hb32p := hb32.h; try simp only [al_ete, al_dfn, Bool.not_eq_true', Bool.not_eq_false', al_ne, Bool.not_not, al_nn] at hb32p
                    have hjl : xx.kl.take j = xx.kl := List.take_of_length_le (by omega)
                    have hTK' := hTK
                    have hBK' := hBK.mono (show N + 8 + i + ksum t.al i + j ≤ N + 7 + (i + 1) + (ksum t.al i + xx.kl.length) by omega)
                    rw [hjl] at hTK' hBK'
                    refine W_exit ?_
                    refine thn_exit ?_
                    refine thn_exit ?_
                    refine inBlk_exit ?_
                    refine inBlk_normal ?_
                    refine thn_normal ?_
                    refine W_region rfl ?_
                    refine WO_p (PS_add_i64n rfl rfl (by omega) (by omega)) ?_
                    refine WO_p (PS_move_int rfl) ?_
                    refine WO_nil ?_
                    refine thn_normal ?_
                    exact ⟨mA - 1, by omega, i + 1, x3_, by omega, by rw [hyx]; exact hTK', hxfK, hlgK, by rw [hyx, hks1]; exact hBK', ⟨rfl, rfl, rfl, rfl, rfl, congrArg (Value.int .i64) (by omega), trivial⟩, hb3K, hb8K⟩
                · have hb29p := hb29.h; try simp only [al_ete, al_dfn, Bool.not_eq_true', Bool.not_eq_false', al_ne, Bool.not_not, al_nn] at hb29p
                  refine W_exit ?_
                  refine thn_exit ?_
                  refine thn_exit ?_
                  refine inBlk_exit ?_
                  refine thn_normal ?_
                  have hal : t.al.take i = t.al := List.take_of_length_le (by omega); have hki := hV.lk.k i (by omega); have hBA' := hBA.mono (show N + 7 + i + ksum t.al i ≤ N + 90 by omega); rw [hal] at hTA hBA'; exact ⟨x2, ⟨rfl, rfl, rfl, trivial⟩, hTA, hxfA, hlgA, hb3A, hb8A, hBA'⟩
              · rintro ρ44 w44 ⟨x1, hFr44, hT44, hxf44, hlg44, hb344, hb844, hB44⟩
                refine W_env _ hFr44 ?_
                have hSS44 := hT44.ss
                have hSb44 := hSS44.blk
                have hSl44 := hSb44.lt
                have hO44 := hX.omb.keep hT44.keep
                replace hO := hO44
                have hz44 := hT44.keep.sz
                have hb3l44 := hb344.lt
                have hb8l44 := hb844.lt
                have hol44 : x1.origin.length = 20 := by rw [hSS44.rel.origin]; exact hSS44.rel.ob.1
                have hml44 : x1.made.length = 20 := by rw [hSS44.rel.made]; exact hSS44.rel.mb.1
                have hzs44 := encYS_size x1
                have hszS44 := encYS_sz hol44 hml44 (by rw [hSS44.rel.env]; exact hSS44.rel.evb)
                have hEz44 : Ext w0 w44 := ext_keep he0 hT44.keep (fun b e => e ▸ hlow)
                have htx44 := htx0.ext hEz44
                refine W_seqJ (fun ρ w' => ∃ (x1 : YSt), Fr [(3, .pointer (some ⟨b3, 0, none⟩)), (5, .pointer (some ⟨C, 0, none⟩)), (8, .pointer (some ⟨b8, 0, none⟩))] ρ ∧ SStep w w' C x1 (yb5 ks y t) ∧ x1.frames = (none, 0, 0) ∧ x1.now.logs = x.now.logs ∧ Hb w' b3 (.cells (encTx t).toArray 35 (0, 0)) ∧ Hb w' b8 (.cells (ic .u8 (ybTo ks y t)) 25 (0, 0)) ∧ PSB (N + 90) (yb5 ks y t)) ?_ ?_
                · skip
                  refine W_region rfl ?_
                  refine WO_p (PS_move_ptr rfl) ?_
                  refine WO_p (PS_nilCheck rfl) ?_
                  refine WO_p (PS_fieldAddr 10 Hvac.runUnderlying99 rfl Hvac.sizeOf32 rfl rfl) ?_
                  refine WO_store1 Hvac.sizeOf32 rfl (v := (.slice _ _ _)) rfl (Hb.h (by repeat (first | assumption | exact Hb.newY _ _ | refine Hb.alloc ?_ | refine Hb.drew ?_ | refine Hb.ext (by assumption) ?_ | exact Hb.setSameL (by first | omega | (simp only [size_alloc, size_setB, size_drew]; omega)) | exact Hb.setSame (by assumption) | refine Hb.set (by first | omega | (simp only [size_alloc, size_setB, size_drew]; omega)) ?_ ))) rfl (by first | omega | assumption | rfl | decide | exact Nat.le_refl _ | (simp only [size_ic, Value.cells]; omega) | (simp [encWs]; done) | (simp; omega) | simp | exact encYA_sz (by assumption) | exact encYT_sz (by assumption) | exact encYM_sz (by assumption)) rfl ?_
                  refine WO_nil ?_
                  refine thn_normal ?_
                  exact ⟨_, ⟨rfl, rfl, rfl, trivial⟩, hT44.trans (SStep.put2 (x' := { x1 with ret := (none, 0, 0) }) rfl hSS44 (by repeat (first | assumption | exact Ext.refl _ | refine Ext.alloc ?_ _ | refine Ext.drew ?_ | refine Ext.setB ?_ (by first | omega | (simp only [size_alloc, size_setB, size_drew]; omega)) _ | refine Ext.trans ?_ (by assumption))) (encYS_10 _ (none, 0, 0)) { StRel.ext hSS44.rel (by repeat (first | assumption | exact Ext.refl _ | refine Ext.alloc ?_ _ | refine Ext.drew ?_ | refine Ext.setB ?_ (by first | omega | (simp only [size_alloc, size_setB, size_drew]; omega)) _ | refine Ext.trans ?_ (by assumption))) with ret := PB.nil _ }), hxf44, hlg44, Hb.mk (Hb.h (by repeat (first | assumption | exact Hb.newY _ _ | refine Hb.alloc ?_ | refine Hb.drew ?_ | refine Hb.ext (by assumption) ?_ | exact Hb.setSameL (by first | omega | (simp only [size_alloc, size_setB, size_drew]; omega)) | exact Hb.setSame (by assumption) | refine Hb.set (by first | omega | (simp only [size_alloc, size_setB, size_drew]; omega)) ?_ ))), Hb.mk (Hb.h (by repeat (first | assumption | exact Hb.newY _ _ | refine Hb.alloc ?_ | refine Hb.drew ?_ | refine Hb.ext (by assumption) ?_ | exact Hb.setSameL (by first | omega | (simp only [size_alloc, size_setB, size_drew]; omega)) | exact Hb.setSame (by assumption) | refine Hb.set (by first | omega | (simp only [size_alloc, size_setB, size_drew]; omega)) ?_ ))), { hB44 with rl := Nat.zero_le _ }⟩
                · rintro ρ45 w45 ⟨x1, hFr45, hT45, hxf45, hlg45, hb345, hb845, hB5⟩
                  refine W_env _ hFr45 ?_
                  have hSS45 := hT45.ss
                  have hSb45 := hSS45.blk
                  have hSl45 := hSb45.lt
                  have hO45 := hX.omb.keep hT45.keep
                  replace hO := hO45
                  have hz45 := hT45.keep.sz
                  have hb3l45 := hb345.lt
                  have hb8l45 := hb845.lt
                  have hol45 : x1.origin.length = 20 := by rw [hSS45.rel.origin]; exact hSS45.rel.ob.1
                  have hml45 : x1.made.length = 20 := by rw [hSS45.rel.made]; exact hSS45.rel.mb.1
                  have hzs45 := encYS_size x1
                  have hszS45 := encYS_sz hol45 hml45 (by rw [hSS45.rel.env]; exact hSS45.rel.evb)
                  have hEz45 : Ext w0 w45 := ext_keep he0 hT45.keep (fun b e => e ▸ hlow)
                  have htx45 := htx0.ext hEz45
                  have hk15 : Ce (encYS x1).toArray (0 + 15) (.slice x1.txGas.1 x1.txGas.2.1 x1.txGas.2.2) := ⟨rfl⟩
                  have hyax := yaxs_f t.al (yb4 ks y t)
                  have hNtx : NN w45 x1.txGas (t.gas.toNat - yintr t) := by have h9 : NN w45 x1.txGas (yaxs (yb4 ks y t) t.al).txGas := hSS45.rel.txGas; rw [hyax.2] at h9; exact h9
                  have hsz0 := fr0_sz
                  have hzv : sz (bvY t.value) ≤ 32 := by have := sz_le (bv_lt htx.va.2); rwa [htx.va.1] at this
                  have hvaX := hat.va
                  have hdAB : AB w45 (t.data.1, t.data.2.1, t.data.2.2) t.db := (htx0.da.ab htx0.dr hdc).ext hEz45
                  have hdb8 := hV.db
                  refine W_seqJ (fun ρ w' => ∃ (b17 : Nat) (s5 : SV), Fr [(3, .pointer (some ⟨b3, 0, none⟩)), (5, .pointer (some ⟨C, 0, none⟩)), (8, .pointer (some ⟨b8, 0, none⟩)), (17, .pointer (some ⟨b17, 0, none⟩))] ρ ∧ Ext w45 w' ∧ w45.heap.size ≤ b17 ∧ Hb w' b3 (.cells (encTx t).toArray 35 (0, 0)) ∧ Hb w' b8 (.cells (ic .u8 (ybTo ks y t)) 25 (0, 0)) ∧ Hb w' b17 (.cells (encYF (kYF 0 false x1.txGas s5 (none, 0, 0) (ybTo ks y t) t.fr)).toArray 121 (0, 0)) ∧ NN w' s5 (bvY t.value)) ?_ ?_
                  · skip
                    refine W_drawF [false, false, false, false, false, false, true, false, false, false, false, true, false] [11] [0, 1, 2, 3, 4, 5, 6, 7, 8, 9, 10, 12] hmix (by kernel_rfl) rfl rfl rfl ?_
                    refine F_q (i := 0) rfl (by kernel_rfl) ?_
                    refine WH_p (PS_move_ptr rfl) rfl ?_
                    refine WH_nil ?_
                    refine F_q (i := 1) rfl (by kernel_rfl) ?_
                    refine WH_p (PS_nilCheck rfl) rfl ?_
                    refine WH_nil ?_
                    refine F_q (i := 2) rfl (by kernel_rfl) ?_
                    refine WH_p (PS_fieldAddr 15 Hvac.runUnderlying99 rfl Hvac.sizeOf92 rfl rfl) rfl ?_
                    refine WH_nil ?_
                    refine F_q (i := 3) rfl (by kernel_rfl) ?_
                    refine WH_load (.slice _ _ _) Hvac.isAgg92 rfl (Hb.h (by repeat (first | assumption | exact Hb.newY _ _ | refine Hb.alloc ?_ | refine Hb.drew ?_ | refine Hb.ext (by assumption) ?_ | exact Hb.setSameL (by first | omega | (simp only [size_alloc, size_setB, size_drew]; omega)) | exact Hb.setSame (by assumption) | refine Hb.set (by first | omega | (simp only [size_alloc, size_setB, size_drew]; omega)) ?_ ))) (Ce.h (by first | assumption | exact ⟨rfl⟩)) ?_
                    refine WH_nil ?_
                    refine F_q (i := 4) rfl (by kernel_rfl) ?_
                    refine WH_p (PS_fieldAddr 75 Hvac.runUnderlying35 rfl Hvac.sizeOf28 rfl rfl) rfl ?_
                    refine WH_nil ?_
                    refine F_q (i := 5) rfl (by kernel_rfl) ?_
                    refine WH_p (PS_slA Hvac.runUnderlying28 Hvac.sizeOf5 rfl (by omega)) rfl ?_
                    refine WH_nil ?_
                    refine F_fork1 (i := 6) rfl rfl ?_ ?_
                    · refine WH_call Hvac.call29 (by rfl) (Ret.mono (nBE_spec (OmB.ext hO (by repeat (first | assumption | exact Ext.refl _ | refine Ext.alloc ?_ _ | refine Ext.drew ?_ | refine Ext.setB ?_ (by first | omega | (simp only [size_alloc, size_setB, size_drew]; omega)) _ | exact Ext.trans (by assumption) (by assumption) | refine Ext.trans ?_ (by assumption)))) (AB.xt (Hb.mk (Hb.h (by repeat (first | assumption | exact Hb.newY _ _ | refine Hb.alloc ?_ | refine Hb.drew ?_ | refine Hb.ext (by assumption) ?_ | exact Hb.setSameL (by first | omega | (simp only [size_alloc, size_setB, size_drew]; omega)) | exact Hb.setSame (by assumption) | refine Hb.set (by first | omega | (simp only [size_alloc, size_setB, size_drew]; omega)) ?_ )))) hvaX (by omega) htx.va.1 htx.va.2) (by omega)) ?_)
                      rintro _ w29_34 ⟨hE29_34, s5, rfl, hN5⟩
                      refine ⟨fun _ => (by repeat (first | assumption | exact Ext.refl _ | refine Ext.alloc ?_ _ | refine Ext.drew ?_ | refine Ext.setB ?_ (by first | omega | (simp only [size_alloc, size_setB, size_drew]; omega)) _ | exact Ext.trans (by assumption) (by assumption) | refine Ext.trans ?_ (by assumption))), ?_⟩
                      have hz29_34 := hE29_34.1
                      try simp only [size_alloc, size_setB, size_drew] at hz29_34
                      refine WH_nil ?_
                      refine F_q (i := 7) rfl (by kernel_rfl) ?_
                      refine WH_loadA _ Hvac.isAgg25 Hvac.sizeOf25 rfl (Hb.h (by repeat (first | assumption | exact Hb.newY _ _ | refine Hb.alloc ?_ | refine Hb.drew ?_ | refine Hb.ext (by assumption) ?_ | exact Hb.setSameL (by first | omega | (simp only [size_alloc, size_setB, size_drew]; omega)) | exact Hb.setSame (by assumption) | refine Hb.set (by first | omega | (simp only [size_alloc, size_setB, size_drew]; omega)) ?_ ))) (by first | omega | assumption | rfl | decide | exact Nat.le_refl _ | (simp only [size_ic, Value.cells]; omega) | (simp [encWs]; done) | (simp; omega) | simp | exact encYA_sz (by assumption) | exact encYT_sz (by assumption) | exact encYM_sz (by assumption)) (Xt.h (by first | assumption | exact Xt.whole rfl rfl | exact Xt.whole rfl (by assumption) | exact Xt.whole rfl (by simp only [size_ic, Value.cells]; omega) | exact ⟨rfl⟩)) ?_
                      refine WH_nil ?_
                      refine F_q (i := 8) rfl (by kernel_rfl) ?_
                      refine WH_p (PS_fieldAddr 0 Hvac.runUnderlying35 rfl Hvac.sizeOf25 rfl rfl) rfl ?_
                      refine WH_nil ?_
                      refine F_q (i := 9) rfl (by kernel_rfl) ?_
                      refine WH_loadA _ Hvac.isAgg25 Hvac.sizeOf25 rfl (Hb.h (by repeat (first | assumption | exact Hb.newY _ _ | refine Hb.alloc ?_ | refine Hb.drew ?_ | refine Hb.ext (by assumption) ?_ | exact Hb.setSameL (by first | omega | (simp only [size_alloc, size_setB, size_drew]; omega)) | exact Hb.setSame (by assumption) | refine Hb.set (by first | omega | (simp only [size_alloc, size_setB, size_drew]; omega)) ?_ ))) (by first | omega | assumption | rfl | decide | exact Nat.le_refl _ | (simp only [size_ic, Value.cells]; omega) | (simp [encWs]; done) | (simp; omega) | simp | exact encYA_sz (by assumption) | exact encYT_sz (by assumption) | exact encYM_sz (by assumption)) (Xt.h (by first | assumption | exact Xt.whole rfl rfl | exact Xt.whole rfl (by assumption) | exact Xt.whole rfl (by simp only [size_ic, Value.cells]; omega) | exact ⟨rfl⟩)) ?_
                      refine WH_nil ?_
                      refine F_q (i := 10) rfl (by kernel_rfl) ?_
                      refine WH_p (PS_b121_0_4_5_12_13 (k := 0) rfl rfl rfl rfl hTOl rfl hAl) rfl ?_
                      rw [show ((s5.1, s5.2.1, s5.2.2) : SV) = s5 from rfl, show ((x1.txGas.1, x1.txGas.2.1, x1.txGas.2.2) : SV) = x1.txGas from rfl]
                      have hszk := encYF_sz (x := (kYF 0 false x1.txGas s5 (none, 0, 0) (ybTo ks y t) t.fr)) hTOl hAl
                      have honek := one_YF (kYF 0 false x1.txGas s5 (none, 0, 0) (ybTo ks y t) t.fr)
                      refine WH_nil ?_
                      refine F_fork1B (i := 12) (by kernel_rfl) rfl ?_
                      · refine WH_allocG Hvac.zeroValue121 ?_
                        intro b17 v17 hg17 hE17 hH17 hl17
                        try simp only [size_alloc, size_setB, size_drew] at hg17
                        have hzz17 := hE17.1
                        try simp only [size_alloc, size_setB, size_drew] at hzz17
                        replace hH17 : Hb v17 b17 (.cells ((encYF fr0).toArray) 121 (0, 0)) := hH17
                        refine ⟨fun _ => (by repeat (first | assumption | exact Ext.refl _ | refine Ext.alloc ?_ _ | refine Ext.drew ?_ | refine Ext.setB ?_ (by first | omega | (simp only [size_alloc, size_setB, size_drew]; omega)) _ | exact Ext.trans (by assumption) (by assumption) | refine Ext.trans ?_ (by assumption))), ?_⟩
                        refine WH_nil ?_
                        refine F_q (i := 12) rfl (by kernel_rfl) ?_
                        first | refine WH_storeW Hvac.sizeOf121 rfl (v := .agg _) rfl (Hb.h (by repeat (first | assumption | exact Hb.newY _ _ | refine Hb.alloc ?_ | refine Hb.drew ?_ | refine Hb.ext (by assumption) ?_ | exact Hb.setSameL (by first | omega | (simp only [size_alloc, size_setB, size_drew]; omega)) | exact Hb.setSame (by assumption) | refine Hb.set (by first | omega | (simp only [size_alloc, size_setB, size_drew]; omega)) ?_ ))) rfl (by first | omega | assumption | rfl | decide | exact Nat.le_refl _ | (simp only [size_ic, Value.cells]; omega) | (simp [encWs]; done) | (simp; omega) | simp | exact encYA_sz (by assumption) | exact encYT_sz (by assumption) | exact encYM_sz (by assumption)) (by first | omega | assumption | rfl | decide | exact Nat.le_refl _ | (simp only [size_ic, Value.cells]; omega) | (simp [encWs]; done) | (simp; omega) | simp | exact encYA_sz (by assumption) | exact encYT_sz (by assumption) | exact encYM_sz (by assumption)) (by first | exact oneCell_ic | assumption | exact one_Ws2 _ | exact one_YA2 _ | exact one_YSl2 _ | exact one_YM2 _ | exact one_YT2 _ | exact one_L2 _) (fun h => by cases h) ?_ | refine WH_store Hvac.sizeOf121 rfl (v := .agg _) rfl (Hb.h (by repeat (first | assumption | exact Hb.newY _ _ | refine Hb.alloc ?_ | refine Hb.drew ?_ | refine Hb.ext (by assumption) ?_ | exact Hb.setSameL (by first | omega | (simp only [size_alloc, size_setB, size_drew]; omega)) | exact Hb.setSame (by assumption) | refine Hb.set (by first | omega | (simp only [size_alloc, size_setB, size_drew]; omega)) ?_ ))) (by first | omega | assumption | rfl | decide | exact Nat.le_refl _ | (simp only [size_ic, Value.cells]; omega) | (simp [encWs]; done) | (simp; omega) | simp | exact encYA_sz (by assumption) | exact encYT_sz (by assumption) | exact encYM_sz (by assumption)) (by first | omega | assumption | rfl | decide | exact Nat.le_refl _ | (simp only [size_ic, Value.cells]; omega) | (simp [encWs]; done) | (simp; omega) | simp | exact encYA_sz (by assumption) | exact encYT_sz (by assumption) | exact encYM_sz (by assumption)) (by first | exact oneCell_ic | assumption | exact one_Ws2 _ | exact one_YA2 _ | exact one_YSl2 _ | exact one_YM2 _ | exact one_YT2 _ | exact one_L2 _) (fun h => by cases h) ?_
                        refine WH_nil ?_
                        refine F_end ?_
                        refine thn_normal ?_
                        first | exact ⟨b17, s5, ⟨rfl, rfl, rfl, rfl, trivial⟩, (by repeat (first | assumption | exact Ext.refl _ | refine Ext.alloc ?_ _ | refine Ext.drew ?_ | refine Ext.setB ?_ (by first | omega | (simp only [size_alloc, size_setB, size_drew]; omega)) _ | refine Ext.trans ?_ (by assumption))), by omega, Hb.mk (Hb.h (by repeat (first | assumption | exact Hb.newY _ _ | refine Hb.alloc ?_ | refine Hb.drew ?_ | refine Hb.ext (by assumption) ?_ | exact Hb.setSameL (by first | omega | (simp only [size_alloc, size_setB, size_drew]; omega)) | exact Hb.setSame (by assumption) | refine Hb.set (by first | omega | (simp only [size_alloc, size_setB, size_drew]; omega)) ?_ ))), Hb.mk (Hb.h (by repeat (first | assumption | exact Hb.newY _ _ | refine Hb.alloc ?_ | refine Hb.drew ?_ | refine Hb.ext (by assumption) ?_ | exact Hb.setSameL (by first | omega | (simp only [size_alloc, size_setB, size_drew]; omega)) | exact Hb.setSame (by assumption) | refine Hb.set (by first | omega | (simp only [size_alloc, size_setB, size_drew]; omega)) ?_ ))), Hb.mk (Hb.h (by repeat (first | assumption | exact Hb.newY _ _ | refine Hb.alloc ?_ | refine Hb.drew ?_ | refine Hb.ext (by assumption) ?_ | exact Hb.setSameL (by first | omega | (simp only [size_alloc, size_setB, size_drew]; omega)) | exact Hb.setSame (by assumption) | refine Hb.set (by first | omega | (simp only [size_alloc, size_setB, size_drew]; omega)) ?_ ))), NN.b121 hN5 (Hb.mk (Hb.h (by repeat (first | assumption | exact Hb.newY _ _ | refine Hb.alloc ?_ | refine Hb.drew ?_ | refine Hb.ext (by assumption) ?_ | exact Hb.setSameL (by first | omega | (simp only [size_alloc, size_setB, size_drew]; omega)) | exact Hb.setSame (by assumption) | refine Hb.set (by first | omega | (simp only [size_alloc, size_setB, size_drew]; omega)) ?_ ))))⟩ | exact ⟨b17, s5, ⟨rfl, rfl, rfl, rfl, trivial⟩, (by repeat (first | assumption | exact Ext.refl _ | refine Ext.alloc ?_ _ | refine Ext.drew ?_ | refine Ext.setB ?_ (by first | omega | (simp only [size_alloc, size_setB, size_drew]; omega)) _ | refine Ext.trans ?_ (by assumption))), by omega, Hb.mk (Hb.h (by repeat (first | assumption | exact Hb.newY _ _ | refine Hb.alloc ?_ | refine Hb.drew ?_ | refine Hb.ext (by assumption) ?_ | exact Hb.setSameL (by first | omega | (simp only [size_alloc, size_setB, size_drew]; omega)) | exact Hb.setSame (by assumption) | refine Hb.set (by first | omega | (simp only [size_alloc, size_setB, size_drew]; omega)) ?_ ))), Hb.mk (Hb.h (by repeat (first | assumption | exact Hb.newY _ _ | refine Hb.alloc ?_ | refine Hb.drew ?_ | refine Hb.ext (by assumption) ?_ | exact Hb.setSameL (by first | omega | (simp only [size_alloc, size_setB, size_drew]; omega)) | exact Hb.setSame (by assumption) | refine Hb.set (by first | omega | (simp only [size_alloc, size_setB, size_drew]; omega)) ?_ ))), Hb.mk (Hb.h (by repeat (first | assumption | exact Hb.newY _ _ | refine Hb.alloc ?_ | refine Hb.drew ?_ | refine Hb.ext (by assumption) ?_ | exact Hb.setSameL (by first | omega | (simp only [size_alloc, size_setB, size_drew]; omega)) | exact Hb.setSame (by assumption) | refine Hb.set (by first | omega | (simp only [size_alloc, size_setB, size_drew]; omega)) ?_ ))), NN.ext hN5 (by repeat (first | assumption | exact Ext.refl _ | refine Ext.alloc ?_ _ | refine Ext.drew ?_ | refine Ext.setB ?_ (by first | omega | (simp only [size_alloc, size_setB, size_drew]; omega)) _ | refine Ext.trans ?_ (by assumption)))⟩
                    · refine WH_allocG Hvac.zeroValue121 ?_
                      intro b17 v17 hg17 hE17 hH17 hl17
                      try simp only [size_alloc, size_setB, size_drew] at hg17
                      have hzz17 := hE17.1
                      try simp only [size_alloc, size_setB, size_drew] at hzz17
                      replace hH17 : Hb v17 b17 (.cells ((encYF fr0).toArray) 121 (0, 0)) := hH17
                      refine ⟨fun _ => (by repeat (first | assumption | exact Ext.refl _ | refine Ext.alloc ?_ _ | refine Ext.drew ?_ | refine Ext.setB ?_ (by first | omega | (simp only [size_alloc, size_setB, size_drew]; omega)) _ | exact Ext.trans (by assumption) (by assumption) | refine Ext.trans ?_ (by assumption))), ?_⟩
                      refine WH_nil ?_
                      refine F_q (i := 6) rfl (by kernel_rfl) ?_
                      refine WH_call Hvac.call29 (by rfl) (Ret.mono (nBE_spec (OmB.ext hO (by repeat (first | assumption | exact Ext.refl _ | refine Ext.alloc ?_ _ | refine Ext.drew ?_ | refine Ext.setB ?_ (by first | omega | (simp only [size_alloc, size_setB, size_drew]; omega)) _ | exact Ext.trans (by assumption) (by assumption) | refine Ext.trans ?_ (by assumption)))) (AB.xt (Hb.mk (Hb.h (by repeat (first | assumption | exact Hb.newY _ _ | refine Hb.alloc ?_ | refine Hb.drew ?_ | refine Hb.ext (by assumption) ?_ | exact Hb.setSameL (by first | omega | (simp only [size_alloc, size_setB, size_drew]; omega)) | exact Hb.setSame (by assumption) | refine Hb.set (by first | omega | (simp only [size_alloc, size_setB, size_drew]; omega)) ?_ )))) hvaX (by omega) htx.va.1 htx.va.2) (by omega)) ?_)
                      rintro _ w29_35 ⟨hE29_35, s5, rfl, hN5⟩
                      refine ⟨fun _ => (by repeat (first | assumption | exact Ext.refl _ | refine Ext.alloc ?_ _ | refine Ext.drew ?_ | refine Ext.setB ?_ (by first | omega | (simp only [size_alloc, size_setB, size_drew]; omega)) _ | exact Ext.trans (by assumption) (by assumption) | refine Ext.trans ?_ (by assumption))), ?_⟩
                      have hz29_35 := hE29_35.1
                      try simp only [size_alloc, size_setB, size_drew] at hz29_35
                      refine WH_nil ?_
                      refine F_q (i := 7) rfl (by kernel_rfl) ?_
                      refine WH_loadA _ Hvac.isAgg25 Hvac.sizeOf25 rfl (Hb.h (by repeat (first | assumption | exact Hb.newY _ _ | refine Hb.alloc ?_ | refine Hb.drew ?_ | refine Hb.ext (by assumption) ?_ | exact Hb.setSameL (by first | omega | (simp only [size_alloc, size_setB, size_drew]; omega)) | exact Hb.setSame (by assumption) | refine Hb.set (by first | omega | (simp only [size_alloc, size_setB, size_drew]; omega)) ?_ ))) (by first | omega | assumption | rfl | decide | exact Nat.le_refl _ | (simp only [size_ic, Value.cells]; omega) | (simp [encWs]; done) | (simp; omega) | simp | exact encYA_sz (by assumption) | exact encYT_sz (by assumption) | exact encYM_sz (by assumption)) (Xt.h (by first | assumption | exact Xt.whole rfl rfl | exact Xt.whole rfl (by assumption) | exact Xt.whole rfl (by simp only [size_ic, Value.cells]; omega) | exact ⟨rfl⟩)) ?_
                      refine WH_nil ?_
                      refine F_q (i := 8) rfl (by kernel_rfl) ?_
                      refine WH_p (PS_fieldAddr 0 Hvac.runUnderlying35 rfl Hvac.sizeOf25 rfl rfl) rfl ?_
                      refine WH_nil ?_
                      refine F_q (i := 9) rfl (by kernel_rfl) ?_
                      refine WH_loadA _ Hvac.isAgg25 Hvac.sizeOf25 rfl (Hb.h (by repeat (first | assumption | exact Hb.newY _ _ | refine Hb.alloc ?_ | refine Hb.drew ?_ | refine Hb.ext (by assumption) ?_ | exact Hb.setSameL (by first | omega | (simp only [size_alloc, size_setB, size_drew]; omega)) | exact Hb.setSame (by assumption) | refine Hb.set (by first | omega | (simp only [size_alloc, size_setB, size_drew]; omega)) ?_ ))) (by first | omega | assumption | rfl | decide | exact Nat.le_refl _ | (simp only [size_ic, Value.cells]; omega) | (simp [encWs]; done) | (simp; omega) | simp | exact encYA_sz (by assumption) | exact encYT_sz (by assumption) | exact encYM_sz (by assumption)) (Xt.h (by first | assumption | exact Xt.whole rfl rfl | exact Xt.whole rfl (by assumption) | exact Xt.whole rfl (by simp only [size_ic, Value.cells]; omega) | exact ⟨rfl⟩)) ?_
                      refine WH_nil ?_
                      refine F_q (i := 10) rfl (by kernel_rfl) ?_
                      refine WH_p (PS_b121_0_4_5_12_13 (k := 0) rfl rfl rfl rfl hTOl rfl hAl) rfl ?_
                      rw [show ((s5.1, s5.2.1, s5.2.2) : SV) = s5 from rfl, show ((x1.txGas.1, x1.txGas.2.1, x1.txGas.2.2) : SV) = x1.txGas from rfl]
                      have hszk := encYF_sz (x := (kYF 0 false x1.txGas s5 (none, 0, 0) (ybTo ks y t) t.fr)) hTOl hAl
                      have honek := one_YF (kYF 0 false x1.txGas s5 (none, 0, 0) (ybTo ks y t) t.fr)
                      refine WH_nil ?_
                      refine F_q (i := 12) rfl (by kernel_rfl) ?_
                      first | refine WH_storeW Hvac.sizeOf121 rfl (v := .agg _) rfl (Hb.h (by repeat (first | assumption | exact Hb.newY _ _ | refine Hb.alloc ?_ | refine Hb.drew ?_ | refine Hb.ext (by assumption) ?_ | exact Hb.setSameL (by first | omega | (simp only [size_alloc, size_setB, size_drew]; omega)) | exact Hb.setSame (by assumption) | refine Hb.set (by first | omega | (simp only [size_alloc, size_setB, size_drew]; omega)) ?_ ))) rfl (by first | omega | assumption | rfl | decide | exact Nat.le_refl _ | (simp only [size_ic, Value.cells]; omega) | (simp [encWs]; done) | (simp; omega) | simp | exact encYA_sz (by assumption) | exact encYT_sz (by assumption) | exact encYM_sz (by assumption)) (by first | omega | assumption | rfl | decide | exact Nat.le_refl _ | (simp only [size_ic, Value.cells]; omega) | (simp [encWs]; done) | (simp; omega) | simp | exact encYA_sz (by assumption) | exact encYT_sz (by assumption) | exact encYM_sz (by assumption)) (by first | exact oneCell_ic | assumption | exact one_Ws2 _ | exact one_YA2 _ | exact one_YSl2 _ | exact one_YM2 _ | exact one_YT2 _ | exact one_L2 _) (fun h => by cases h) ?_ | refine WH_store Hvac.sizeOf121 rfl (v := .agg _) rfl (Hb.h (by repeat (first | assumption | exact Hb.newY _ _ | refine Hb.alloc ?_ | refine Hb.drew ?_ | refine Hb.ext (by assumption) ?_ | exact Hb.setSameL (by first | omega | (simp only [size_alloc, size_setB, size_drew]; omega)) | exact Hb.setSame (by assumption) | refine Hb.set (by first | omega | (simp only [size_alloc, size_setB, size_drew]; omega)) ?_ ))) (by first | omega | assumption | rfl | decide | exact Nat.le_refl _ | (simp only [size_ic, Value.cells]; omega) | (simp [encWs]; done) | (simp; omega) | simp | exact encYA_sz (by assumption) | exact encYT_sz (by assumption) | exact encYM_sz (by assumption)) (by first | omega | assumption | rfl | decide | exact Nat.le_refl _ | (simp only [size_ic, Value.cells]; omega) | (simp [encWs]; done) | (simp; omega) | simp | exact encYA_sz (by assumption) | exact encYT_sz (by assumption) | exact encYM_sz (by assumption)) (by first | exact oneCell_ic | assumption | exact one_Ws2 _ | exact one_YA2 _ | exact one_YSl2 _ | exact one_YM2 _ | exact one_YT2 _ | exact one_L2 _) (fun h => by cases h) ?_
                      refine WH_nil ?_
                      refine F_end ?_
                      refine thn_normal ?_
                      first | exact ⟨b17, s5, ⟨rfl, rfl, rfl, rfl, trivial⟩, (by repeat (first | assumption | exact Ext.refl _ | refine Ext.alloc ?_ _ | refine Ext.drew ?_ | refine Ext.setB ?_ (by first | omega | (simp only [size_alloc, size_setB, size_drew]; omega)) _ | refine Ext.trans ?_ (by assumption))), by omega, Hb.mk (Hb.h (by repeat (first | assumption | exact Hb.newY _ _ | refine Hb.alloc ?_ | refine Hb.drew ?_ | refine Hb.ext (by assumption) ?_ | exact Hb.setSameL (by first | omega | (simp only [size_alloc, size_setB, size_drew]; omega)) | exact Hb.setSame (by assumption) | refine Hb.set (by first | omega | (simp only [size_alloc, size_setB, size_drew]; omega)) ?_ ))), Hb.mk (Hb.h (by repeat (first | assumption | exact Hb.newY _ _ | refine Hb.alloc ?_ | refine Hb.drew ?_ | refine Hb.ext (by assumption) ?_ | exact Hb.setSameL (by first | omega | (simp only [size_alloc, size_setB, size_drew]; omega)) | exact Hb.setSame (by assumption) | refine Hb.set (by first | omega | (simp only [size_alloc, size_setB, size_drew]; omega)) ?_ ))), Hb.mk (Hb.h (by repeat (first | assumption | exact Hb.newY _ _ | refine Hb.alloc ?_ | refine Hb.drew ?_ | refine Hb.ext (by assumption) ?_ | exact Hb.setSameL (by first | omega | (simp only [size_alloc, size_setB, size_drew]; omega)) | exact Hb.setSame (by assumption) | refine Hb.set (by first | omega | (simp only [size_alloc, size_setB, size_drew]; omega)) ?_ ))), NN.b121 hN5 (Hb.mk (Hb.h (by repeat (first | assumption | exact Hb.newY _ _ | refine Hb.alloc ?_ | refine Hb.drew ?_ | refine Hb.ext (by assumption) ?_ | exact Hb.setSameL (by first | omega | (simp only [size_alloc, size_setB, size_drew]; omega)) | exact Hb.setSame (by assumption) | refine Hb.set (by first | omega | (simp only [size_alloc, size_setB, size_drew]; omega)) ?_ ))))⟩ | exact ⟨b17, s5, ⟨rfl, rfl, rfl, rfl, trivial⟩, (by repeat (first | assumption | exact Ext.refl _ | refine Ext.alloc ?_ _ | refine Ext.drew ?_ | refine Ext.setB ?_ (by first | omega | (simp only [size_alloc, size_setB, size_drew]; omega)) _ | refine Ext.trans ?_ (by assumption))), by omega, Hb.mk (Hb.h (by repeat (first | assumption | exact Hb.newY _ _ | refine Hb.alloc ?_ | refine Hb.drew ?_ | refine Hb.ext (by assumption) ?_ | exact Hb.setSameL (by first | omega | (simp only [size_alloc, size_setB, size_drew]; omega)) | exact Hb.setSame (by assumption) | refine Hb.set (by first | omega | (simp only [size_alloc, size_setB, size_drew]; omega)) ?_ ))), Hb.mk (Hb.h (by repeat (first | assumption | exact Hb.newY _ _ | refine Hb.alloc ?_ | refine Hb.drew ?_ | refine Hb.ext (by assumption) ?_ | exact Hb.setSameL (by first | omega | (simp only [size_alloc, size_setB, size_drew]; omega)) | exact Hb.setSame (by assumption) | refine Hb.set (by first | omega | (simp only [size_alloc, size_setB, size_drew]; omega)) ?_ ))), Hb.mk (Hb.h (by repeat (first | assumption | exact Hb.newY _ _ | refine Hb.alloc ?_ | refine Hb.drew ?_ | refine Hb.ext (by assumption) ?_ | exact Hb.setSameL (by first | omega | (simp only [size_alloc, size_setB, size_drew]; omega)) | exact Hb.setSame (by assumption) | refine Hb.set (by first | omega | (simp only [size_alloc, size_setB, size_drew]; omega)) ?_ ))), NN.ext hN5 (by repeat (first | assumption | exact Ext.refl _ | refine Ext.alloc ?_ _ | refine Ext.drew ?_ | refine Ext.setB ?_ (by first | omega | (simp only [size_alloc, size_setB, size_drew]; omega)) _ | refine Ext.trans ?_ (by assumption)))⟩
                  · rintro ρ46 w46 ⟨b17, s5, hFr46, hE46, hg17, hb346, hb846, hb1746, hN546⟩
                    refine W_env _ hFr46 ?_
                    have hz46 := hE46.1
                    have hb3l46 := hb346.lt
                    have hb8l46 := hb846.lt
                    have hb17l46 := hb1746.lt
                    have hO44 := hO
                    have hSS46 := hSS45.ext hE46
                    have hSl46 := hSS46.blk.lt
                    have hfr46 : FrR w46 (kYF 0 false x1.txGas s5 (none, 0, 0) (ybTo ks y t) t.fr) (ybfr ks y t) := kYF_rel (NN.ext hNtx hE46) hN546 (PB.nil _) hTOb htx.fr
                    have hszk := encYF_sz (x := (kYF 0 false x1.txGas s5 (none, 0, 0) (ybTo ks y t) t.fr)) hTOl hAl
                    refine W_seqJ (fun ρ w' => ∃ (xf : YFr), Fr [(5, .pointer (some ⟨C, 0, none⟩)), (17, .pointer (some ⟨b17, 0, none⟩))] ρ ∧ Ext w45 w' ∧ Hb w' b17 (.cells (encYF xf).toArray 121 (0, 0)) ∧ FrR w' xf (ybf ks y t) ∧ xf.mem = (none, 0, 0) ∧ ¬ (t.create = true ∧ ytaken (yb5 ks y t).now.accts (ybTo ks y t) = true)) ?_ ?_
                    · skip
                      refine W_seq ?_
                      refine W_region rfl ?_
                      refine WO_p (PS_fieldAddr 40 Hvac.runUnderlying35 rfl Hvac.sizeOf4 rfl rfl) ?_
                      refine WO_load (.bool _) Hvac.isAgg4 rfl (Hb.h (by repeat (first | assumption | exact Hb.newY _ _ | refine Hb.alloc ?_ | refine Hb.drew ?_ | refine Hb.ext (by assumption) ?_ | exact Hb.setSameL (by first | omega | (simp only [size_alloc, size_setB, size_drew]; omega)) | exact Hb.setSame (by assumption) | refine Hb.set (by first | omega | (simp only [size_alloc, size_setB, size_drew]; omega)) ?_ ))) (Ce.h (by first | assumption | exact ⟨rfl⟩)) ?_
                      refine WO_p (PS_not rfl) ?_
                      refine WO_nil ?_
                      refine thn_normal ?_
                      refine W_if rfl (fun hb39 => ?_) (fun hb39 => ?_)
                      · have hb39p := hb39.h; try simp only [al_ete, al_dfn, Bool.not_eq_true', Bool.not_eq_false', al_ne, Bool.not_not, al_nn] at hb39p
                        have hc9 : ¬ t.create = true := by simpa using hb39p
                        refine W_seq ?_
                        have hntb := ynative_bd (ybTo ks y t)
                        refine W_region rfl ?_
                        refine WO_loadA _ Hvac.isAgg25 Hvac.sizeOf25 rfl (Hb.h (by repeat (first | assumption | exact Hb.newY _ _ | refine Hb.alloc ?_ | refine Hb.drew ?_ | refine Hb.ext (by assumption) ?_ | exact Hb.setSameL (by first | omega | (simp only [size_alloc, size_setB, size_drew]; omega)) | exact Hb.setSame (by assumption) | refine Hb.set (by first | omega | (simp only [size_alloc, size_setB, size_drew]; omega)) ?_ ))) (by first | omega | assumption | rfl | decide | exact Nat.le_refl _ | (simp only [size_ic, Value.cells]; omega) | (simp [encWs]; done) | (simp; omega) | simp | exact encYA_sz (by assumption) | exact encYT_sz (by assumption) | exact encYM_sz (by assumption)) (Xt.h (by first | assumption | exact Xt.whole rfl rfl | exact Xt.whole rfl (by assumption) | exact Xt.whole rfl (by simp only [size_ic, Value.cells]; omega) | exact ⟨rfl⟩)) ?_
                        refine WO_call Hvac.call30 (by rfl) (Ret.mono (yNativeAt_spec _ hTOb _) ?_)
                        rintro _ w30_39 ⟨hE30_39, rfl⟩
                        have hz30_39 := hE30_39.1
                        try simp only [size_alloc, size_setB, size_drew] at hz30_39
                        refine WO_p (PS_fieldAddr 1 Hvac.runUnderlying121 rfl Hvac.sizeOf5 rfl rfl) ?_
                        refine WO_store1 Hvac.sizeOf5 rfl (v := .int _ _) rfl (Hb.h (by repeat (first | assumption | exact Hb.newY _ _ | refine Hb.alloc ?_ | refine Hb.drew ?_ | refine Hb.ext (by assumption) ?_ | exact Hb.setSameL (by first | omega | (simp only [size_alloc, size_setB, size_drew]; omega)) | exact Hb.setSame (by assumption) | refine Hb.set (by first | omega | (simp only [size_alloc, size_setB, size_drew]; omega)) ?_ ))) rfl (by first | omega | (show _ < (encYF _).toArray.size; rw [encYF_sz (by exact hTOl) (by exact hAl)]; omega)) rfl ?_
                        rw [encYF_1 _ (ynative (ybTo ks y t))]
                        try rw [setB_setB]
                        refine WO_nil ?_
                        refine thn_normal ?_
                        refine W_seqJ (fun ρ w' => ∃ (sc : SV), Fr [(3, .pointer (some ⟨b3, 0, none⟩)), (5, .pointer (some ⟨C, 0, none⟩)), (8, .pointer (some ⟨b8, 0, none⟩)), (17, .pointer (some ⟨b17, 0, none⟩))] ρ ∧ Ext w45 w' ∧ Hb w' b3 (.cells (encTx t).toArray 35 (0, 0)) ∧ Hb w' b8 (.cells (ic .u8 (ybTo ks y t)) 25 (0, 0)) ∧ Hb w' b17 (.cells (encYF { kYF 0 false x1.txGas s5 (none, 0, 0) (ybTo ks y t) t.fr with nat := ynative (ybTo ks y t), code := sc }).toArray 121 (0, 0)) ∧ PB w' sc (if ynative (ybTo ks y t) = 0 then (yacct (yb5 ks y t).now.accts (ybTo ks y t)).code else []) ∧ FrR w' (kYF 0 false x1.txGas s5 (none, 0, 0) (ybTo ks y t) t.fr) (ybfr ks y t)) ?_ ?_
                        · skip
                          refine W_seq ?_
                          refine W_gen fun w47 hw47 => ?_
                          have hE47 : Ext w45 w47 := by rw [hw47]; exact (by repeat (first | assumption | exact Ext.refl _ | refine Ext.alloc ?_ _ | refine Ext.drew ?_ | refine Ext.setB ?_ (by first | omega | (simp only [size_alloc, size_setB, size_drew]; omega)) _ | refine Ext.trans ?_ (by assumption)))
                          have hb347 : Hb w47 b3 (.cells (encTx t).toArray 35 (0, 0)) := by rw [hw47]; exact Hb.mk (Hb.h (by repeat (first | assumption | exact Hb.newY _ _ | refine Hb.alloc ?_ | refine Hb.drew ?_ | refine Hb.ext (by assumption) ?_ | exact Hb.setSameL (by first | omega | (simp only [size_alloc, size_setB, size_drew]; omega)) | exact Hb.setSame (by assumption) | refine Hb.set (by first | omega | (simp only [size_alloc, size_setB, size_drew]; omega)) ?_ )))
                          have hb847 : Hb w47 b8 (.cells (ic .u8 (ybTo ks y t)) 25 (0, 0)) := by rw [hw47]; exact Hb.mk (Hb.h (by repeat (first | assumption | exact Hb.newY _ _ | refine Hb.alloc ?_ | refine Hb.drew ?_ | refine Hb.ext (by assumption) ?_ | exact Hb.setSameL (by first | omega | (simp only [size_alloc, size_setB, size_drew]; omega)) | exact Hb.setSame (by assumption) | refine Hb.set (by first | omega | (simp only [size_alloc, size_setB, size_drew]; omega)) ?_ )))
                          have hb1747 : Hb w47 b17 (.cells (encYF { kYF 0 false x1.txGas s5 (none, 0, 0) (ybTo ks y t) t.fr with nat := ynative (ybTo ks y t) }).toArray 121 (0, 0)) := by rw [hw47]; exact Hb.mk (Hb.h (by repeat (first | assumption | exact Hb.newY _ _ | refine Hb.alloc ?_ | refine Hb.drew ?_ | refine Hb.ext (by assumption) ?_ | exact Hb.setSameL (by first | omega | (simp only [size_alloc, size_setB, size_drew]; omega)) | exact Hb.setSame (by assumption) | refine Hb.set (by first | omega | (simp only [size_alloc, size_setB, size_drew]; omega)) ?_ )))
                          have hfr47 : FrR w47 (kYF 0 false x1.txGas s5 (none, 0, 0) (ybTo ks y t) t.fr) (ybfr ks y t) := by rw [hw47]; exact FrR.b121 (FrR.ext hfr46 (by repeat (first | assumption | exact Ext.refl _ | refine Ext.alloc ?_ _ | refine Ext.drew ?_ | refine Ext.setB ?_ (by first | omega | (simp only [size_alloc, size_setB, size_drew]; omega)) _ | refine Ext.trans ?_ (by assumption)))) (Hb.mk (Hb.h (by repeat (first | assumption | exact Hb.newY _ _ | refine Hb.alloc ?_ | refine Hb.drew ?_ | refine Hb.ext (by assumption) ?_ | exact Hb.setSameL (by first | omega | (simp only [size_alloc, size_setB, size_drew]; omega)) | exact Hb.setSame (by assumption) | refine Hb.set (by first | omega | (simp only [size_alloc, size_setB, size_drew]; omega)) ?_ ))))
                          clear hw47
                          have hz47 := hE47.1
                          have hb3l47 := hb347.lt
                          have hb8l47 := hb847.lt
                          have hb17l47 := hb1747.lt
                          have hSS47 := hSS45.ext hE47
                          have hSl47 := hSS47.blk.lt
                          have hnk47 : Ce (encYF { kYF 0 false x1.txGas s5 (none, 0, 0) (ybTo ks y t) t.fr with nat := ynative (ybTo ks y t) }).toArray (0 + 1) (.int .u8 (ynative (ybTo ks y t))) := ⟨rfl⟩
                          have hszK1 : (encYF { kYF 0 false x1.txGas s5 (none, 0, 0) (ybTo ks y t) t.fr with nat := ynative (ybTo ks y t) }).toArray.size = 60 := encYF_sz (x := { kYF 0 false x1.txGas s5 (none, 0, 0) (ybTo ks y t) t.fr with nat := ynative (ybTo ks y t) }) hTOl hAl
                          refine W_region rfl ?_
                          refine WO_p (PS_fieldAddr 1 Hvac.runUnderlying121 rfl Hvac.sizeOf5 rfl rfl) ?_
                          refine WO_load (.int _ _) Hvac.isAgg5 rfl (Hb.h (by repeat (first | assumption | exact Hb.newY _ _ | refine Hb.alloc ?_ | refine Hb.drew ?_ | refine Hb.ext (by assumption) ?_ | exact Hb.setSameL (by first | omega | (simp only [size_alloc, size_setB, size_drew]; omega)) | exact Hb.setSame (by assumption) | refine Hb.set (by first | omega | (simp only [size_alloc, size_setB, size_drew]; omega)) ?_ ))) (Ce.h (by first | assumption | exact ⟨rfl⟩)) ?_
                          refine WO_p (PS_eql rfl rfl) ?_
                          refine WO_nil ?_
                          refine thn_normal ?_
                          refine W_if rfl (fun hb42 => ?_) (fun hb42 => ?_)
                          · have hb42p := hb42.h; try simp only [al_ete, al_dfn, Bool.not_eq_true', Bool.not_eq_false', al_ne, Bool.not_not, al_nn] at hb42p
                            have hn9 : ynative (ybTo ks y t) = 0 := by omega
                            refine W_drawE [false, false, false, false, false, false, false, false, false] hmix (by kernel_rfl) rfl ?_
                            refine WH_p (PS_move_ptr rfl) rfl ?_
                            refine WH_p (PS_nilCheck rfl) rfl ?_
                            refine WH_p (PS_fieldAddr 0 Hvac.runUnderlying99 rfl Hvac.sizeOf95 rfl rfl) rfl ?_
                            refine WH_loadA _ Hvac.isAgg25 Hvac.sizeOf25 rfl (Hb.h (by repeat (first | assumption | exact Hb.newY _ _ | refine Hb.alloc ?_ | refine Hb.drew ?_ | refine Hb.ext (by assumption) ?_ | exact Hb.setSameL (by first | omega | (simp only [size_alloc, size_setB, size_drew]; omega)) | exact Hb.setSame (by assumption) | refine Hb.set (by first | omega | (simp only [size_alloc, size_setB, size_drew]; omega)) ?_ ))) (by first | omega | assumption | rfl | decide | exact Nat.le_refl _ | (simp only [size_ic, Value.cells]; omega) | (simp [encWs]; done) | (simp; omega) | simp | exact encYA_sz (by assumption) | exact encYT_sz (by assumption) | exact encYM_sz (by assumption)) (Xt.h (by first | assumption | exact Xt.whole rfl rfl | exact Xt.whole rfl (by assumption) | exact Xt.whole rfl (by simp only [size_ic, Value.cells]; omega) | exact ⟨rfl⟩)) ?_
                            refine WH_call Hvac.call17 (by rfl) (Ret.mono (acctS (OmB.ext hO (by repeat (first | assumption | exact Ext.refl _ | refine Ext.alloc ?_ _ | refine Ext.drew ?_ | refine Ext.setB ?_ (by first | omega | (simp only [size_alloc, size_setB, size_drew]; omega)) _ | exact Ext.trans (by assumption) (by assumption) | refine Ext.trans ?_ (by assumption)))) (YSS.ext hSS45 (by repeat (first | assumption | exact Ext.refl _ | refine Ext.alloc ?_ _ | refine Ext.drew ?_ | refine Ext.setB ?_ (by first | omega | (simp only [size_alloc, size_setB, size_drew]; omega)) _ | exact Ext.trans (by assumption) (by assumption) | refine Ext.trans ?_ (by assumption)))) hB5 (by omega) hTOb) ?_)
                            rintro _ w17_42 ⟨hE17_42, x32, rfl, hxa32, hxr32⟩
                            refine ⟨(fun h => by cases h), ?_⟩
                            have hz17_42 := hE17_42.1
                            try simp only [size_alloc, size_setB, size_drew] at hz17_42
                            have hxl32 : x32.addr.length = 20 := by rw [hxa32]; exact hTOl
                            have hsz32 : (encYA x32).toArray.size = 24 := by simpa using encYA_len hxl32
                            have hc332 := encYA_3 hxl32
                            have hcp32 : PB w17_42 x32.code (yacct (yb5 ks y t).now.accts (ybTo ks y t)).code := hxr32.code
                            have hcl32 := hB5.now.cd.acct (ybTo ks y t)
                            have hcn32 := PB.len hcp32
                            refine WH_p (PS_field (.slice _ _ _) 22 Hvac.runUnderlying104 rfl Hvac.isAgg32 rfl rfl (Ce.h (by first | assumption | exact ⟨rfl⟩))) rfl ?_
                            refine WH_call Hvac.call31 (by rfl) (Ret.mono (yBytesOf_spec _ (OmB.ext hO (by repeat (first | assumption | exact Ext.refl _ | refine Ext.alloc ?_ _ | refine Ext.drew ?_ | refine Ext.setB ?_ (by first | omega | (simp only [size_alloc, size_setB, size_drew]; omega)) _ | exact Ext.trans (by assumption) (by assumption) | refine Ext.trans ?_ (by assumption)))) _ _ _ _ (by first | assumption | exact AB.ext (by assumption) (by repeat (first | assumption | exact Ext.refl _ | refine Ext.alloc ?_ _ | refine Ext.drew ?_ | refine Ext.setB ?_ (by first | omega | (simp only [size_alloc, size_setB, size_drew]; omega)) _ | exact Ext.trans (by assumption) (by assumption) | refine Ext.trans ?_ (by assumption))) | exact PB.ab (by assumption) | exact PB.ab (PB.ext (by assumption) (by repeat (first | assumption | exact Ext.refl _ | refine Ext.alloc ?_ _ | refine Ext.drew ?_ | refine Ext.setB ?_ (by first | omega | (simp only [size_alloc, size_setB, size_drew]; omega)) _ | exact Ext.trans (by assumption) (by assumption) | refine Ext.trans ?_ (by assumption))))) (by omega)) ?_)
                            rintro _ w31_43 ⟨hE31_43, s49, rfl, hN49⟩
                            refine ⟨(fun h => by cases h), ?_⟩
                            have hz31_43 := hE31_43.1
                            try simp only [size_alloc, size_setB, size_drew] at hz31_43
                            refine WH_p (PS_fieldAddr 10 Hvac.runUnderlying121 rfl Hvac.sizeOf32 rfl rfl) rfl ?_
                            refine WH_store1 Hvac.sizeOf32 rfl (v := .slice _ _ _) rfl (Hb.h (by repeat (first | assumption | exact Hb.newY _ _ | refine Hb.alloc ?_ | refine Hb.drew ?_ | refine Hb.ext (by assumption) ?_ | exact Hb.setSameL (by first | omega | (simp only [size_alloc, size_setB, size_drew]; omega)) | exact Hb.setSame (by assumption) | refine Hb.set (by first | omega | (simp only [size_alloc, size_setB, size_drew]; omega)) ?_ ))) rfl (by first | omega | (show _ < (encYF _).toArray.size; rw [encYF_sz (by exact hTOl) (by exact hAl)]; omega)) rfl (fun h => by cases h) ?_
                            rw [encYF_10 _ s49]
                            try rw [setB_setB]
                            refine WH_nil ?_
                            refine thn_normal ?_
                            rw [if_pos hn9]; exact ⟨s49, ⟨rfl, rfl, rfl, rfl, trivial⟩, (by repeat (first | assumption | exact Ext.refl _ | refine Ext.alloc ?_ _ | refine Ext.drew ?_ | refine Ext.setB ?_ (by first | omega | (simp only [size_alloc, size_setB, size_drew]; omega)) _ | refine Ext.trans ?_ (by assumption))), Hb.mk (Hb.h (by repeat (first | assumption | exact Hb.newY _ _ | refine Hb.alloc ?_ | refine Hb.drew ?_ | refine Hb.ext (by assumption) ?_ | exact Hb.setSameL (by first | omega | (simp only [size_alloc, size_setB, size_drew]; omega)) | exact Hb.setSame (by assumption) | refine Hb.set (by first | omega | (simp only [size_alloc, size_setB, size_drew]; omega)) ?_ ))), Hb.mk (Hb.h (by repeat (first | assumption | exact Hb.newY _ _ | refine Hb.alloc ?_ | refine Hb.drew ?_ | refine Hb.ext (by assumption) ?_ | exact Hb.setSameL (by first | omega | (simp only [size_alloc, size_setB, size_drew]; omega)) | exact Hb.setSame (by assumption) | refine Hb.set (by first | omega | (simp only [size_alloc, size_setB, size_drew]; omega)) ?_ ))), Hb.mk (Hb.h (by repeat (first | assumption | exact Hb.newY _ _ | refine Hb.alloc ?_ | refine Hb.drew ?_ | refine Hb.ext (by assumption) ?_ | exact Hb.setSameL (by first | omega | (simp only [size_alloc, size_setB, size_drew]; omega)) | exact Hb.setSame (by assumption) | refine Hb.set (by first | omega | (simp only [size_alloc, size_setB, size_drew]; omega)) ?_ ))), PB.b121 hN49 (Hb.mk (Hb.h (by repeat (first | assumption | exact Hb.newY _ _ | refine Hb.alloc ?_ | refine Hb.drew ?_ | refine Hb.ext (by assumption) ?_ | exact Hb.setSameL (by first | omega | (simp only [size_alloc, size_setB, size_drew]; omega)) | exact Hb.setSame (by assumption) | refine Hb.set (by first | omega | (simp only [size_alloc, size_setB, size_drew]; omega)) ?_ )))), FrR.b121 (FrR.ext hfr47 (by repeat (first | assumption | exact Ext.refl _ | refine Ext.alloc ?_ _ | refine Ext.drew ?_ | refine Ext.setB ?_ (by first | omega | (simp only [size_alloc, size_setB, size_drew]; omega)) _ | refine Ext.trans ?_ (by assumption)))) (Hb.mk (Hb.h (by repeat (first | assumption | exact Hb.newY _ _ | refine Hb.alloc ?_ | refine Hb.drew ?_ | refine Hb.ext (by assumption) ?_ | exact Hb.setSameL (by first | omega | (simp only [size_alloc, size_setB, size_drew]; omega)) | exact Hb.setSame (by assumption) | refine Hb.set (by first | omega | (simp only [size_alloc, size_setB, size_drew]; omega)) ?_ ))))⟩
                          · have hb42p := hb42.h; try simp only [al_ete, al_dfn, Bool.not_eq_true', Bool.not_eq_false', al_ne, Bool.not_not, al_nn] at hb42p
                            have hn9 : ¬ ynative (ybTo ks y t) = 0 := by omega
                            refine W_skip ?_
                            refine thn_normal ?_
                            rw [if_neg hn9]; exact ⟨(none, 0, 0), ⟨rfl, rfl, rfl, rfl, trivial⟩, (by repeat (first | assumption | exact Ext.refl _ | refine Ext.alloc ?_ _ | refine Ext.drew ?_ | refine Ext.setB ?_ (by first | omega | (simp only [size_alloc, size_setB, size_drew]; omega)) _ | refine Ext.trans ?_ (by assumption))), Hb.mk (Hb.h (by repeat (first | assumption | exact Hb.newY _ _ | refine Hb.alloc ?_ | refine Hb.drew ?_ | refine Hb.ext (by assumption) ?_ | exact Hb.setSameL (by first | omega | (simp only [size_alloc, size_setB, size_drew]; omega)) | exact Hb.setSame (by assumption) | refine Hb.set (by first | omega | (simp only [size_alloc, size_setB, size_drew]; omega)) ?_ ))), Hb.mk (Hb.h (by repeat (first | assumption | exact Hb.newY _ _ | refine Hb.alloc ?_ | refine Hb.drew ?_ | refine Hb.ext (by assumption) ?_ | exact Hb.setSameL (by first | omega | (simp only [size_alloc, size_setB, size_drew]; omega)) | exact Hb.setSame (by assumption) | refine Hb.set (by first | omega | (simp only [size_alloc, size_setB, size_drew]; omega)) ?_ ))), Hb.mk (Hb.h (by repeat (first | assumption | exact Hb.newY _ _ | refine Hb.alloc ?_ | refine Hb.drew ?_ | refine Hb.ext (by assumption) ?_ | exact Hb.setSameL (by first | omega | (simp only [size_alloc, size_setB, size_drew]; omega)) | exact Hb.setSame (by assumption) | refine Hb.set (by first | omega | (simp only [size_alloc, size_setB, size_drew]; omega)) ?_ ))), PB.nil _, FrR.ext hfr47 (by repeat (first | assumption | exact Ext.refl _ | refine Ext.alloc ?_ _ | refine Ext.drew ?_ | refine Ext.setB ?_ (by first | omega | (simp only [size_alloc, size_setB, size_drew]; omega)) _ | refine Ext.trans ?_ (by assumption)))⟩
                        · rintro ρ50 w50 ⟨sc, hFr50, hE50, hb350, hb850, hb1750, hPc50, hfr50⟩
                          refine W_env _ hFr50 ?_
                          have hz50 := hE50.1
                          have hb3l50 := hb350.lt
                          have hb8l50 := hb850.lt
                          have hb17l50 := hb1750.lt
                          have hSl50 := (hSS45.ext hE50).blk.lt
                          refine W_region rfl ?_
                          refine WO_p (PS_fieldAddr 107 Hvac.runUnderlying35 rfl Hvac.sizeOf32 rfl rfl) ?_
                          refine WO_load (.slice _ _ _) Hvac.isAgg32 rfl (Hb.h (by repeat (first | assumption | exact Hb.newY _ _ | refine Hb.alloc ?_ | refine Hb.drew ?_ | refine Hb.ext (by assumption) ?_ | exact Hb.setSameL (by first | omega | (simp only [size_alloc, size_setB, size_drew]; omega)) | exact Hb.setSame (by assumption) | refine Hb.set (by first | omega | (simp only [size_alloc, size_setB, size_drew]; omega)) ?_ ))) (Ce.h (by first | assumption | exact ⟨rfl⟩)) ?_
                          refine WO_call Hvac.call31 (by rfl) (Ret.mono (yBytesOf_spec _ (OmB.ext hO (by repeat (first | assumption | exact Ext.refl _ | refine Ext.alloc ?_ _ | refine Ext.drew ?_ | refine Ext.setB ?_ (by first | omega | (simp only [size_alloc, size_setB, size_drew]; omega)) _ | exact Ext.trans (by assumption) (by assumption) | refine Ext.trans ?_ (by assumption)))) _ _ _ _ (AB.ext hdAB (by repeat (first | assumption | exact Ext.refl _ | refine Ext.alloc ?_ _ | refine Ext.drew ?_ | refine Ext.setB ?_ (by first | omega | (simp only [size_alloc, size_setB, size_drew]; omega)) _ | exact Ext.trans (by assumption) (by assumption) | refine Ext.trans ?_ (by assumption)))) (by omega)) ?_)
                          rintro _ w31_44 ⟨hE31_44, s50, rfl, hN50⟩
                          have hz31_44 := hE31_44.1
                          try simp only [size_alloc, size_setB, size_drew] at hz31_44
                          refine WO_p (PS_fieldAddr 11 Hvac.runUnderlying121 rfl Hvac.sizeOf32 rfl rfl) ?_
                          refine WO_store1 Hvac.sizeOf32 rfl (v := .slice _ _ _) rfl (Hb.h (by repeat (first | assumption | exact Hb.newY _ _ | refine Hb.alloc ?_ | refine Hb.drew ?_ | refine Hb.ext (by assumption) ?_ | exact Hb.setSameL (by first | omega | (simp only [size_alloc, size_setB, size_drew]; omega)) | exact Hb.setSame (by assumption) | refine Hb.set (by first | omega | (simp only [size_alloc, size_setB, size_drew]; omega)) ?_ ))) rfl (by first | omega | (show _ < (encYF _).toArray.size; rw [encYF_sz (by exact hTOl) (by exact hAl)]; omega)) rfl ?_
                          rw [encYF_11 _ s50]
                          try rw [setB_setB]
                          refine WO_nil ?_
                          refine thn_normal ?_
                          exact ⟨{ kYF 0 false x1.txGas s5 (none, 0, 0) (ybTo ks y t) t.fr with nat := ynative (ybTo ks y t), code := sc, inputY := s50 }, ⟨rfl, rfl, trivial⟩, (by repeat (first | assumption | exact Ext.refl _ | refine Ext.alloc ?_ _ | refine Ext.drew ?_ | refine Ext.setB ?_ (by first | omega | (simp only [size_alloc, size_setB, size_drew]; omega)) _ | refine Ext.trans ?_ (by assumption))), Hb.mk (Hb.h (by repeat (first | assumption | exact Hb.newY _ _ | refine Hb.alloc ?_ | refine Hb.drew ?_ | refine Hb.ext (by assumption) ?_ | exact Hb.setSameL (by first | omega | (simp only [size_alloc, size_setB, size_drew]; omega)) | exact Hb.setSame (by assumption) | refine Hb.set (by first | omega | (simp only [size_alloc, size_setB, size_drew]; omega)) ?_ ))), by unfold ybf; rw [if_neg hc9]; exact (((FrR.b121 (FrR.ext hfr50 (by repeat (first | assumption | exact Ext.refl _ | refine Ext.alloc ?_ _ | refine Ext.drew ?_ | refine Ext.setB ?_ (by first | omega | (simp only [size_alloc, size_setB, size_drew]; omega)) _ | refine Ext.trans ?_ (by assumption)))) (Hb.mk (Hb.h (by repeat (first | assumption | exact Hb.newY _ _ | refine Hb.alloc ?_ | refine Hb.drew ?_ | refine Hb.ext (by assumption) ?_ | exact Hb.setSameL (by first | omega | (simp only [size_alloc, size_setB, size_drew]; omega)) | exact Hb.setSame (by assumption) | refine Hb.set (by first | omega | (simp only [size_alloc, size_setB, size_drew]; omega)) ?_ ))))).sNat).sCode (PB.b121 (PB.ext hPc50 (by repeat (first | assumption | exact Ext.refl _ | refine Ext.alloc ?_ _ | refine Ext.drew ?_ | refine Ext.setB ?_ (by first | omega | (simp only [size_alloc, size_setB, size_drew]; omega)) _ | refine Ext.trans ?_ (by assumption)))) (Hb.mk (Hb.h (by repeat (first | assumption | exact Hb.newY _ _ | refine Hb.alloc ?_ | refine Hb.drew ?_ | refine Hb.ext (by assumption) ?_ | exact Hb.setSameL (by first | omega | (simp only [size_alloc, size_setB, size_drew]; omega)) | exact Hb.setSame (by assumption) | refine Hb.set (by first | omega | (simp only [size_alloc, size_setB, size_drew]; omega)) ?_ )))))).sInput (PB.b121 hN50 (Hb.mk (Hb.h (by repeat (first | assumption | exact Hb.newY _ _ | refine Hb.alloc ?_ | refine Hb.drew ?_ | refine Hb.ext (by assumption) ?_ | exact Hb.setSameL (by first | omega | (simp only [size_alloc, size_setB, size_drew]; omega)) | exact Hb.setSame (by assumption) | refine Hb.set (by first | omega | (simp only [size_alloc, size_setB, size_drew]; omega)) ?_ ))))), rfl, fun h9 => hc9 h9.1⟩
                      · have hb39p := hb39.h; try simp only [al_ete, al_dfn, Bool.not_eq_true', Bool.not_eq_false', al_ne, Bool.not_not, al_nn] at hb39p
                        have hc9 : t.create = true := by simpa using hb39p
                        refine W_seq ?_
                        refine W_region rfl ?_
                        refine WO_p (PS_fieldAddr 0 Hvac.runUnderlying121 rfl Hvac.sizeOf5 rfl rfl) ?_
                        refine WO_store1 Hvac.sizeOf5 rfl (v := .int _ _) rfl (Hb.h (by repeat (first | assumption | exact Hb.newY _ _ | refine Hb.alloc ?_ | refine Hb.drew ?_ | refine Hb.ext (by assumption) ?_ | exact Hb.setSameL (by first | omega | (simp only [size_alloc, size_setB, size_drew]; omega)) | exact Hb.setSame (by assumption) | refine Hb.set (by first | omega | (simp only [size_alloc, size_setB, size_drew]; omega)) ?_ ))) rfl (by first | omega | (show _ < (encYF _).toArray.size; rw [encYF_sz (by exact hTOl) (by exact hAl)]; omega)) rfl ?_
                        rw [encYF_0i _ 1 1 rfl]
                        try rw [setB_setB]
                        refine WO_nil ?_
                        refine thn_normal ?_
                        refine W_seq ?_
                        refine W_gen fun w51 hw51 => ?_
                        have hE51 : Ext w45 w51 := by rw [hw51]; exact (by repeat (first | assumption | exact Ext.refl _ | refine Ext.alloc ?_ _ | refine Ext.drew ?_ | refine Ext.setB ?_ (by first | omega | (simp only [size_alloc, size_setB, size_drew]; omega)) _ | refine Ext.trans ?_ (by assumption)))
                        have hb351 : Hb w51 b3 (.cells (encTx t).toArray 35 (0, 0)) := by rw [hw51]; exact Hb.mk (Hb.h (by repeat (first | assumption | exact Hb.newY _ _ | refine Hb.alloc ?_ | refine Hb.drew ?_ | refine Hb.ext (by assumption) ?_ | exact Hb.setSameL (by first | omega | (simp only [size_alloc, size_setB, size_drew]; omega)) | exact Hb.setSame (by assumption) | refine Hb.set (by first | omega | (simp only [size_alloc, size_setB, size_drew]; omega)) ?_ )))
                        have hb851 : Hb w51 b8 (.cells (ic .u8 (ybTo ks y t)) 25 (0, 0)) := by rw [hw51]; exact Hb.mk (Hb.h (by repeat (first | assumption | exact Hb.newY _ _ | refine Hb.alloc ?_ | refine Hb.drew ?_ | refine Hb.ext (by assumption) ?_ | exact Hb.setSameL (by first | omega | (simp only [size_alloc, size_setB, size_drew]; omega)) | exact Hb.setSame (by assumption) | refine Hb.set (by first | omega | (simp only [size_alloc, size_setB, size_drew]; omega)) ?_ )))
                        have hb1751 : Hb w51 b17 (.cells (encYF { kYF 0 false x1.txGas s5 (none, 0, 0) (ybTo ks y t) t.fr with kind := 1 }).toArray 121 (0, 0)) := by rw [hw51]; exact Hb.mk (Hb.h (by repeat (first | assumption | exact Hb.newY _ _ | refine Hb.alloc ?_ | refine Hb.drew ?_ | refine Hb.ext (by assumption) ?_ | exact Hb.setSameL (by first | omega | (simp only [size_alloc, size_setB, size_drew]; omega)) | exact Hb.setSame (by assumption) | refine Hb.set (by first | omega | (simp only [size_alloc, size_setB, size_drew]; omega)) ?_ )))
                        have hfr51 : FrR w51 (kYF 0 false x1.txGas s5 (none, 0, 0) (ybTo ks y t) t.fr) (ybfr ks y t) := by rw [hw51]; exact FrR.b121 (FrR.ext hfr46 (by repeat (first | assumption | exact Ext.refl _ | refine Ext.alloc ?_ _ | refine Ext.drew ?_ | refine Ext.setB ?_ (by first | omega | (simp only [size_alloc, size_setB, size_drew]; omega)) _ | refine Ext.trans ?_ (by assumption)))) (Hb.mk (Hb.h (by repeat (first | assumption | exact Hb.newY _ _ | refine Hb.alloc ?_ | refine Hb.drew ?_ | refine Hb.ext (by assumption) ?_ | exact Hb.setSameL (by first | omega | (simp only [size_alloc, size_setB, size_drew]; omega)) | exact Hb.setSame (by assumption) | refine Hb.set (by first | omega | (simp only [size_alloc, size_setB, size_drew]; omega)) ?_ ))))
                        clear hw51
                        have hz51 := hE51.1
                        have hb3l51 := hb351.lt
                        have hb8l51 := hb851.lt
                        have hb17l51 := hb1751.lt
                        have hSS51 := hSS45.ext hE51
                        have hSl51 := hSS51.blk.lt
                        refine W_region rfl ?_
                        refine WO_p (PS_fieldAddr 107 Hvac.runUnderlying35 rfl Hvac.sizeOf32 rfl rfl) ?_
                        refine WO_load (.slice _ _ _) Hvac.isAgg32 rfl (Hb.h (by repeat (first | assumption | exact Hb.newY _ _ | refine Hb.alloc ?_ | refine Hb.drew ?_ | refine Hb.ext (by assumption) ?_ | exact Hb.setSameL (by first | omega | (simp only [size_alloc, size_setB, size_drew]; omega)) | exact Hb.setSame (by assumption) | refine Hb.set (by first | omega | (simp only [size_alloc, size_setB, size_drew]; omega)) ?_ ))) (Ce.h (by first | assumption | exact ⟨rfl⟩)) ?_
                        refine WO_call Hvac.call31 (by rfl) (Ret.mono (yBytesOf_spec _ (OmB.ext hO (by repeat (first | assumption | exact Ext.refl _ | refine Ext.alloc ?_ _ | refine Ext.drew ?_ | refine Ext.setB ?_ (by first | omega | (simp only [size_alloc, size_setB, size_drew]; omega)) _ | exact Ext.trans (by assumption) (by assumption) | refine Ext.trans ?_ (by assumption)))) _ _ _ _ (AB.ext hdAB (by repeat (first | assumption | exact Ext.refl _ | refine Ext.alloc ?_ _ | refine Ext.drew ?_ | refine Ext.setB ?_ (by first | omega | (simp only [size_alloc, size_setB, size_drew]; omega)) _ | exact Ext.trans (by assumption) (by assumption) | refine Ext.trans ?_ (by assumption)))) (by omega)) ?_)
                        rintro _ w31_45 ⟨hE31_45, s52, rfl, hN52⟩
                        have hz31_45 := hE31_45.1
                        try simp only [size_alloc, size_setB, size_drew] at hz31_45
                        refine WO_p (PS_fieldAddr 10 Hvac.runUnderlying121 rfl Hvac.sizeOf32 rfl rfl) ?_
                        refine WO_store1 Hvac.sizeOf32 rfl (v := .slice _ _ _) rfl (Hb.h (by repeat (first | assumption | exact Hb.newY _ _ | refine Hb.alloc ?_ | refine Hb.drew ?_ | refine Hb.ext (by assumption) ?_ | exact Hb.setSameL (by first | omega | (simp only [size_alloc, size_setB, size_drew]; omega)) | exact Hb.setSame (by assumption) | refine Hb.set (by first | omega | (simp only [size_alloc, size_setB, size_drew]; omega)) ?_ ))) rfl (by first | omega | (show _ < (encYF _).toArray.size; rw [encYF_sz (by exact hTOl) (by exact hAl)]; omega)) rfl ?_
                        rw [encYF_10 _ s52]
                        try rw [setB_setB]
                        refine WO_nil ?_
                        refine thn_normal ?_
                        refine W_seq ?_
                        refine W_gen fun w52 hw52 => ?_
                        have hE52 : Ext w45 w52 := by rw [hw52]; exact (by repeat (first | assumption | exact Ext.refl _ | refine Ext.alloc ?_ _ | refine Ext.drew ?_ | refine Ext.setB ?_ (by first | omega | (simp only [size_alloc, size_setB, size_drew]; omega)) _ | refine Ext.trans ?_ (by assumption)))
                        have hb352 : Hb w52 b3 (.cells (encTx t).toArray 35 (0, 0)) := by rw [hw52]; exact Hb.mk (Hb.h (by repeat (first | assumption | exact Hb.newY _ _ | refine Hb.alloc ?_ | refine Hb.drew ?_ | refine Hb.ext (by assumption) ?_ | exact Hb.setSameL (by first | omega | (simp only [size_alloc, size_setB, size_drew]; omega)) | exact Hb.setSame (by assumption) | refine Hb.set (by first | omega | (simp only [size_alloc, size_setB, size_drew]; omega)) ?_ )))
                        have hb852 : Hb w52 b8 (.cells (ic .u8 (ybTo ks y t)) 25 (0, 0)) := by rw [hw52]; exact Hb.mk (Hb.h (by repeat (first | assumption | exact Hb.newY _ _ | refine Hb.alloc ?_ | refine Hb.drew ?_ | refine Hb.ext (by assumption) ?_ | exact Hb.setSameL (by first | omega | (simp only [size_alloc, size_setB, size_drew]; omega)) | exact Hb.setSame (by assumption) | refine Hb.set (by first | omega | (simp only [size_alloc, size_setB, size_drew]; omega)) ?_ )))
                        have hb1752 : Hb w52 b17 (.cells (encYF { kYF 0 false x1.txGas s5 (none, 0, 0) (ybTo ks y t) t.fr with kind := 1, code := s52 }).toArray 121 (0, 0)) := by rw [hw52]; exact Hb.mk (Hb.h (by repeat (first | assumption | exact Hb.newY _ _ | refine Hb.alloc ?_ | refine Hb.drew ?_ | refine Hb.ext (by assumption) ?_ | exact Hb.setSameL (by first | omega | (simp only [size_alloc, size_setB, size_drew]; omega)) | exact Hb.setSame (by assumption) | refine Hb.set (by first | omega | (simp only [size_alloc, size_setB, size_drew]; omega)) ?_ )))
                        have hfr52 : FrR w52 (kYF 0 false x1.txGas s5 (none, 0, 0) (ybTo ks y t) t.fr) (ybfr ks y t) := by rw [hw52]; exact FrR.b121 (FrR.ext hfr51 (by repeat (first | assumption | exact Ext.refl _ | refine Ext.alloc ?_ _ | refine Ext.drew ?_ | refine Ext.setB ?_ (by first | omega | (simp only [size_alloc, size_setB, size_drew]; omega)) _ | refine Ext.trans ?_ (by assumption)))) (Hb.mk (Hb.h (by repeat (first | assumption | exact Hb.newY _ _ | refine Hb.alloc ?_ | refine Hb.drew ?_ | refine Hb.ext (by assumption) ?_ | exact Hb.setSameL (by first | omega | (simp only [size_alloc, size_setB, size_drew]; omega)) | exact Hb.setSame (by assumption) | refine Hb.set (by first | omega | (simp only [size_alloc, size_setB, size_drew]; omega)) ?_ ))))
                        have hP52 : PB w52 s52 t.db := by rw [hw52]; exact PB.b121 (PB.ext hN52 (by repeat (first | assumption | exact Ext.refl _ | refine Ext.alloc ?_ _ | refine Ext.drew ?_ | refine Ext.setB ?_ (by first | omega | (simp only [size_alloc, size_setB, size_drew]; omega)) _ | refine Ext.trans ?_ (by assumption)))) (Hb.mk (Hb.h (by repeat (first | assumption | exact Hb.newY _ _ | refine Hb.alloc ?_ | refine Hb.drew ?_ | refine Hb.ext (by assumption) ?_ | exact Hb.setSameL (by first | omega | (simp only [size_alloc, size_setB, size_drew]; omega)) | exact Hb.setSame (by assumption) | refine Hb.set (by first | omega | (simp only [size_alloc, size_setB, size_drew]; omega)) ?_ ))))
                        clear hw52
                        have hz52 := hE52.1
                        have hb3l52 := hb352.lt
                        have hb8l52 := hb852.lt
                        have hb17l52 := hb1752.lt
                        have hSS52 := hSS45.ext hE52
                        have hSl52 := hSS52.blk.lt
                        refine W_region rfl ?_
                        refine WO_p (PS_move_ptr rfl) ?_
                        refine WO_loadA _ Hvac.isAgg25 Hvac.sizeOf25 rfl (Hb.h (by repeat (first | assumption | exact Hb.newY _ _ | refine Hb.alloc ?_ | refine Hb.drew ?_ | refine Hb.ext (by assumption) ?_ | exact Hb.setSameL (by first | omega | (simp only [size_alloc, size_setB, size_drew]; omega)) | exact Hb.setSame (by assumption) | refine Hb.set (by first | omega | (simp only [size_alloc, size_setB, size_drew]; omega)) ?_ ))) (by first | omega | assumption | rfl | decide | exact Nat.le_refl _ | (simp only [size_ic, Value.cells]; omega) | (simp [encWs]; done) | (simp; omega) | simp | exact encYA_sz (by assumption) | exact encYT_sz (by assumption) | exact encYM_sz (by assumption)) (Xt.h (by first | assumption | exact Xt.whole rfl rfl | exact Xt.whole rfl (by assumption) | exact Xt.whole rfl (by simp only [size_ic, Value.cells]; omega) | exact ⟨rfl⟩)) ?_
                        refine WO_call Hvac.call32 (by rfl) (Ret.mono (yTaken_spec _ (OmB.ext hO (by repeat (first | assumption | exact Ext.refl _ | refine Ext.alloc ?_ _ | refine Ext.drew ?_ | refine Ext.setB ?_ (by first | omega | (simp only [size_alloc, size_setB, size_drew]; omega)) _ | exact Ext.trans (by assumption) (by assumption) | refine Ext.trans ?_ (by assumption)))) C _ _ (N + 90) (YSS.ext hSS45 (by repeat (first | assumption | exact Ext.refl _ | refine Ext.alloc ?_ _ | refine Ext.drew ?_ | refine Ext.setB ?_ (by first | omega | (simp only [size_alloc, size_setB, size_drew]; omega)) _ | exact Ext.trans (by assumption) (by assumption) | refine Ext.trans ?_ (by assumption)))) hB5 (by omega) _ hTOb) ?_)
                        rintro _ w32_46 ⟨hE32_46, rfl⟩
                        have hz32_46 := hE32_46.1
                        try simp only [size_alloc, size_setB, size_drew] at hz32_46
                        refine WO_nil ?_
                        refine thn_normal ?_
                        refine W_if rfl (fun hb48 => ?_) (fun hb48 => ?_)
                        · have hb48p := hb48.h; try simp only [al_ete, al_dfn, Bool.not_eq_true', Bool.not_eq_false', al_ne, Bool.not_not, al_nn] at hb48p
                          have htk : ytaken (yb5 ks y t).now.accts (ybTo ks y t) = true := hb48p
                          refine W_seq ?_
                          refine W_region rfl ?_
                          refine WO_p (PS_move_ptr rfl) ?_
                          refine WO_p (PS_nilCheck rfl) ?_
                          refine WO_p (PS_fieldAddr 11 Hvac.runUnderlying99 rfl Hvac.sizeOf5 rfl rfl) ?_
                          refine WO_store1 Hvac.sizeOf5 rfl (v := (.int _ _)) rfl (Hb.h (by repeat (first | assumption | exact Hb.newY _ _ | refine Hb.alloc ?_ | refine Hb.drew ?_ | refine Hb.ext (by assumption) ?_ | exact Hb.setSameL (by first | omega | (simp only [size_alloc, size_setB, size_drew]; omega)) | exact Hb.setSame (by assumption) | refine Hb.set (by first | omega | (simp only [size_alloc, size_setB, size_drew]; omega)) ?_ ))) rfl (by first | omega | assumption | rfl | decide | exact Nat.le_refl _ | (simp only [size_ic, Value.cells]; omega) | (simp [encWs]; done) | (simp; omega) | simp | exact encYA_sz (by assumption) | exact encYT_sz (by assumption) | exact encYM_sz (by assumption)) rfl ?_
                          refine WO_nil ?_
                          refine thn_normal ?_
                          refine W_seq ?_
                          refine W_gen fun wt54 hwt54 => ?_
                          have hTt54 : SStep w45 wt54 C ({ x1 with phase := 2 }) ({ yb5 ks y t with phase := 2 }) := SStep.put2 hwt54 hSS45 (by repeat (first | assumption | exact Ext.refl _ | refine Ext.alloc ?_ _ | refine Ext.drew ?_ | refine Ext.setB ?_ (by first | omega | (simp only [size_alloc, size_setB, size_drew]; omega)) _ | refine Ext.trans ?_ (by assumption))) (encYS_11 _ 2) ({ StRel.ext hSS45.rel (by repeat (first | assumption | exact Ext.refl _ | refine Ext.alloc ?_ _ | refine Ext.drew ?_ | refine Ext.setB ?_ (by first | omega | (simp only [size_alloc, size_setB, size_drew]; omega)) _ | refine Ext.trans ?_ (by assumption))) with phase := rfl })
                          have hKt54 := hTt54.keep
                          have hKOt54 := hTt54.ko
                          replace hO := hO.keep hKOt54
                          have hSSt54 := hTt54.ss
                          have hSbt54 := hSSt54.blk
                          have hSlt54 := hSbt54.lt
                          have hzt54 := hKt54.sz
                          have hzst54 := encYS_size ({ x1 with phase := 2 })
                          clear hwt54
                          refine W_region rfl ?_
                          refine WO_p (PS_move_ptr rfl) ?_
                          refine WO_p (PS_nilCheck rfl) ?_
                          refine WO_p (PS_fieldAddr 12 Hvac.runUnderlying99 rfl Hvac.sizeOf5 rfl rfl) ?_
                          refine WO_store1 Hvac.sizeOf5 rfl (v := (.int _ _)) rfl (Hb.h (by repeat (first | assumption | exact Hb.newY _ _ | refine Hb.alloc ?_ | refine Hb.drew ?_ | refine Hb.ext (by assumption) ?_ | exact Hb.setSameL (by first | omega | (simp only [size_alloc, size_setB, size_drew]; omega)) | exact Hb.setSame (by assumption) | refine Hb.set (by first | omega | (simp only [size_alloc, size_setB, size_drew]; omega)) ?_ ))) rfl (by first | omega | assumption | rfl | decide | exact Nat.le_refl _ | (simp only [size_ic, Value.cells]; omega) | (simp [encWs]; done) | (simp; omega) | simp | exact encYA_sz (by assumption) | exact encYT_sz (by assumption) | exact encYM_sz (by assumption)) rfl ?_
                          refine WO_nil ?_
                          refine thn_normal ?_
                          refine W_seq ?_
                          refine W_gen fun wt55 hwt55 => ?_
                          have hTt55 : SStep wt54 wt55 C ({ x1 with phase := 2, status := 12 }) ({ yb5 ks y t with phase := 2, status := 12 }) := SStep.put2 hwt55 hSSt54 (by repeat (first | assumption | exact Ext.refl _ | refine Ext.alloc ?_ _ | refine Ext.drew ?_ | refine Ext.setB ?_ (by first | omega | (simp only [size_alloc, size_setB, size_drew]; omega)) _ | refine Ext.trans ?_ (by assumption))) (encYS_12 _ 12) ({ StRel.ext hSSt54.rel (by repeat (first | assumption | exact Ext.refl _ | refine Ext.alloc ?_ _ | refine Ext.drew ?_ | refine Ext.setB ?_ (by first | omega | (simp only [size_alloc, size_setB, size_drew]; omega)) _ | refine Ext.trans ?_ (by assumption))) with status := rfl })
                          have hKt55 := hTt55.keep
                          have hKOt55 := hTt55.ko
                          replace hO := hO.keep hKOt55
                          have hSSt55 := hTt55.ss
                          have hSbt55 := hSSt55.blk
                          have hSlt55 := hSbt55.lt
                          have hzt55 := hKt55.sz
                          have hzst55 := encYS_size ({ x1 with phase := 2, status := 12 })
                          clear hwt55
                          refine W_region rfl ?_
                          refine WO_p (PS_move_ptr rfl) ?_
                          refine WO_p (PS_nilCheck rfl) ?_
                          refine WO_p (PS_fieldAddr 16 Hvac.runUnderlying99 rfl Hvac.sizeOf92 rfl rfl) ?_
                          refine WO_store1 Hvac.sizeOf92 rfl (v := (.slice _ _ _)) rfl (Hb.h (by repeat (first | assumption | exact Hb.newY _ _ | refine Hb.alloc ?_ | refine Hb.drew ?_ | refine Hb.ext (by assumption) ?_ | exact Hb.setSameL (by first | omega | (simp only [size_alloc, size_setB, size_drew]; omega)) | exact Hb.setSame (by assumption) | refine Hb.set (by first | omega | (simp only [size_alloc, size_setB, size_drew]; omega)) ?_ ))) rfl (by first | omega | assumption | rfl | decide | exact Nat.le_refl _ | (simp only [size_ic, Value.cells]; omega) | (simp [encWs]; done) | (simp; omega) | simp | exact encYA_sz (by assumption) | exact encYT_sz (by assumption) | exact encYM_sz (by assumption)) rfl ?_
                          refine WO_nil ?_
                          refine thn_normal ?_
                          refine W_seq ?_
                          refine W_gen fun wt56 hwt56 => ?_
                          have hTt56 : SStep wt55 wt56 C ({ x1 with phase := 2, status := 12, left := (none, 0, 0) }) ({ yb5 ks y t with phase := 2, status := 12, left := 0 }) := SStep.put2 hwt56 hSSt55 (by repeat (first | assumption | exact Ext.refl _ | refine Ext.alloc ?_ _ | refine Ext.drew ?_ | refine Ext.setB ?_ (by first | omega | (simp only [size_alloc, size_setB, size_drew]; omega)) _ | refine Ext.trans ?_ (by assumption))) (encYS_16 _ (none, 0, 0)) ({ StRel.ext hSSt55.rel (by repeat (first | assumption | exact Ext.refl _ | refine Ext.alloc ?_ _ | refine Ext.drew ?_ | refine Ext.setB ?_ (by first | omega | (simp only [size_alloc, size_setB, size_drew]; omega)) _ | refine Ext.trans ?_ (by assumption))) with left := NN.nil _ })
                          have hKt56 := hTt56.keep
                          have hKOt56 := hTt56.ko
                          replace hO := hO.keep hKOt56
                          have hSSt56 := hTt56.ss
                          have hSbt56 := hSSt56.blk
                          have hSlt56 := hSbt56.lt
                          have hzt56 := hKt56.sz
                          have hzst56 := encYS_size ({ x1 with phase := 2, status := 12, left := (none, 0, 0) })
                          clear hwt56
                          refine W_region rfl ?_
                          refine WO_p (PS_assign_int rfl) ?_
                          refine WO_nil ?_
                          refine thn_normal ?_
                          refine W_ret ?_
                          refine thn_ret ?_
                          refine bodyQ_ret1 Hvac.results6 rfl (.int _ _) rfl ?_
                          have e9 : ybegin ks y t = ({ yb5 ks y t with phase := 2, status := 12, left := 0 }, []) := (by unfold ybegin; rw [if_pos ⟨hc9, htk⟩]); have hTT := hT45.trans (hTt54.trans (hTt55.trans hTt56)); refine ⟨fun h9 => absurd hv h9, fun _ => ⟨rfl, ?_⟩⟩; rw [e9]; exact YX.ret ⟨hO, hX.sub, hX.yc, hTT.ss, (by show FRS Y _ x1.frames [] []; rw [hxf45]; exact FRS.nil _ _ _ rfl rfl), (by show ∀ b, sblk x1.now.logs b → Om.p b → Y b; rw [hlg45]; exact hX.yl)⟩ (KeepO.mono hTT.keep (fun b e => e ▸ hX.yc))
                        · have hb48p := hb48.h; try simp only [al_ete, al_dfn, Bool.not_eq_true', Bool.not_eq_false', al_ne, Bool.not_not, al_nn] at hb48p
                          have htk : ¬ ytaken (yb5 ks y t).now.accts (ybTo ks y t) = true := by rw [hb48p]; decide
                          refine W_skip ?_
                          refine thn_normal ?_
                          exact ⟨{ kYF 0 false x1.txGas s5 (none, 0, 0) (ybTo ks y t) t.fr with kind := 1, code := s52 }, ⟨rfl, rfl, trivial⟩, (by repeat (first | assumption | exact Ext.refl _ | refine Ext.alloc ?_ _ | refine Ext.drew ?_ | refine Ext.setB ?_ (by first | omega | (simp only [size_alloc, size_setB, size_drew]; omega)) _ | refine Ext.trans ?_ (by assumption))), Hb.mk (Hb.h (by repeat (first | assumption | exact Hb.newY _ _ | refine Hb.alloc ?_ | refine Hb.drew ?_ | refine Hb.ext (by assumption) ?_ | exact Hb.setSameL (by first | omega | (simp only [size_alloc, size_setB, size_drew]; omega)) | exact Hb.setSame (by assumption) | refine Hb.set (by first | omega | (simp only [size_alloc, size_setB, size_drew]; omega)) ?_ ))), by unfold ybf; rw [if_pos hc9]; exact ({ FrR.ext hfr52 (by repeat (first | assumption | exact Ext.refl _ | refine Ext.alloc ?_ _ | refine Ext.drew ?_ | refine Ext.setB ?_ (by first | omega | (simp only [size_alloc, size_setB, size_drew]; omega)) _ | refine Ext.trans ?_ (by assumption))) with kind := rfl, code := PB.ext hP52 (by repeat (first | assumption | exact Ext.refl _ | refine Ext.alloc ?_ _ | refine Ext.drew ?_ | refine Ext.setB ?_ (by first | omega | (simp only [size_alloc, size_setB, size_drew]; omega)) _ | refine Ext.trans ?_ (by assumption))) }), rfl, fun h9 => htk h9.2⟩
                    · rintro ρ58 w58 ⟨xf, hFr58, hE58, hb1758, hfr58, hxfm, hntk⟩
                      refine W_env _ hFr58 ?_
                      have hz58 := hE58.1
                      have hb17l58 := hb1758.lt
                      have hSS58 := hSS45.ext hE58
                      have hSb58 := hSS58.blk
                      have hSl58 := hSb58.lt
                      have hsf : xf.self.length = 20 := by rw [hfr58.self]; exact hfr58.sb.1
                      have hcf : xf.caller.length = 20 := by rw [hfr58.caller]; exact hfr58.cb.1
                      have hszf := encYF_sz hsf hcf
                      have honef := one_YF xf
                      replace hO := hO.ext hE58
                      refine W_seq ?_
                      refine W_region rfl ?_
                      refine WO_p (PS_move_ptr rfl) ?_
                      refine WO_p (PS_nilCheck rfl) ?_
                      refine WO_p (PS_fieldAddr 11 Hvac.runUnderlying99 rfl Hvac.sizeOf5 rfl rfl) ?_
                      refine WO_store1 Hvac.sizeOf5 rfl (v := (.int _ _)) rfl (Hb.h (by repeat (first | assumption | exact Hb.newY _ _ | refine Hb.alloc ?_ | refine Hb.drew ?_ | refine Hb.ext (by assumption) ?_ | exact Hb.setSameL (by first | omega | (simp only [size_alloc, size_setB, size_drew]; omega)) | exact Hb.setSame (by assumption) | refine Hb.set (by first | omega | (simp only [size_alloc, size_setB, size_drew]; omega)) ?_ ))) rfl (by first | omega | assumption | rfl | decide | exact Nat.le_refl _ | (simp only [size_ic, Value.cells]; omega) | (simp [encWs]; done) | (simp; omega) | simp | exact encYA_sz (by assumption) | exact encYT_sz (by assumption) | exact encYM_sz (by assumption)) rfl ?_
                      refine WO_nil ?_
                      refine thn_normal ?_
                      refine W_seq ?_
                      refine W_gen fun wp58 hwp58 => ?_
                      have hTp58 : SStep w58 wp58 C ({ x1 with phase := 1 }) ({ yb5 ks y t with phase := 1 }) := SStep.put2 hwp58 hSS58 (by repeat (first | assumption | exact Ext.refl _ | refine Ext.alloc ?_ _ | refine Ext.drew ?_ | refine Ext.setB ?_ (by first | omega | (simp only [size_alloc, size_setB, size_drew]; omega)) _ | refine Ext.trans ?_ (by assumption))) (encYS_11 _ 1) ({ StRel.ext hSS58.rel (by repeat (first | assumption | exact Ext.refl _ | refine Ext.alloc ?_ _ | refine Ext.drew ?_ | refine Ext.setB ?_ (by first | omega | (simp only [size_alloc, size_setB, size_drew]; omega)) _ | refine Ext.trans ?_ (by assumption))) with phase := rfl })
                      have hKp58 := hTp58.keep
                      have hKOp58 := hTp58.ko
                      replace hO := hO.keep hKOp58
                      have hSSp58 := hTp58.ss
                      have hSbp58 := hSSp58.blk
                      have hSlp58 := hSbp58.lt
                      have hzp58 := hKp58.sz
                      have hzsp58 := encYS_size ({ x1 with phase := 1 })
                      have hb17p58 : Hb wp58 b17 (.cells (encYF xf).toArray 121 (0, 0)) := by rw [hwp58]; exact Hb.mk (Hb.h (by repeat (first | assumption | exact Hb.newY _ _ | refine Hb.alloc ?_ | refine Hb.drew ?_ | refine Hb.ext (by assumption) ?_ | exact Hb.setSameL (by first | omega | (simp only [size_alloc, size_setB, size_drew]; omega)) | exact Hb.setSame (by assumption) | refine Hb.set (by first | omega | (simp only [size_alloc, size_setB, size_drew]; omega)) ?_ )))
                      have hfrp58 : FrR wp58 xf (ybf ks y t) := by rw [hwp58]; exact FrR.keep hfr58 (keepSO (Ext.refl _) hSo _) (KT.setB hSb58 (by decide))
                      clear hwp58
                      have hb17lp58 := hb17p58.lt
                      have hTT := (hT45.extR hE58).trans hTp58
                      have hXp : YX Y wp58 C { x1 with phase := 1 } { yb5 ks y t with phase := 1 } [] [] := ⟨hO, hX.sub, hX.yc, hTT.ss, (by show FRS Y _ x1.frames [] []; rw [hxf45]; exact FRS.nil _ _ _ rfl rfl), (by show ∀ b, sblk x1.now.logs b → Om.p b → Y b; rw [hlg45]; exact hX.yl)⟩
                      have hBp : PSB (N + 90) { yb5 ks y t with phase := 1 } := { hB5 with ph := (by show 1 ≤ 255; decide) }
                      have hYBp : YB { yb5 ks y t with phase := 1 } := fun A => by
                        show sz (yacct (yaxs (yb4 ks y t) t.al).now.accts A).bal ≤ 32
                        rw [hyax.1]
                        show sz (yacct (ysetBal (ysetNonce y.now.accts t.fr _) t.fr _) A).bal ≤ 32
                        rw [yacct_setBal]
                        split
                        · exact Nat.le_trans (sz_mono (Nat.sub_le _ _)) (hYB t.fr)
                        · rw [yacct_setNonce]
                          split
                          · exact hYB t.fr
                          · exact hYB A
                      have hcm2 : (ybf ks y t).mem = [] := by unfold ybf; split <;> rfl
                      have hcv9 : sz (ybf ks y t).value ≤ 32 := by unfold ybf; split <;> exact hzv
                      have hck9 : (ybf ks y t).kind ≤ 255 := by unfold ybf; split; (· show 1 ≤ 255; decide); (show 0 ≤ 255; decide)
                      have hKp := KeepO.mono hTT.keep (fun b e => (e ▸ hX.yc : Y b))
                      refine W_region rfl ?_
                      refine WO_p (PS_move_ptr rfl) ?_
                      refine WO_loadA _ Hvac.isAgg121 Hvac.sizeOf121 rfl (Hb.h (by repeat (first | assumption | exact Hb.newY _ _ | refine Hb.alloc ?_ | refine Hb.drew ?_ | refine Hb.ext (by assumption) ?_ | exact Hb.setSameL (by first | omega | (simp only [size_alloc, size_setB, size_drew]; omega)) | exact Hb.setSame (by assumption) | refine Hb.set (by first | omega | (simp only [size_alloc, size_setB, size_drew]; omega)) ?_ ))) (by first | omega | assumption | rfl | decide | exact Nat.le_refl _ | (simp only [size_ic, Value.cells]; omega) | (simp [encWs]; done) | (simp; omega) | simp | exact encYA_sz (by assumption) | exact encYT_sz (by assumption) | exact encYM_sz (by assumption)) (Xt.h (by first | assumption | exact Xt.whole rfl rfl | exact Xt.whole rfl (by assumption) | exact Xt.whole rfl (by simp only [size_ic, Value.cells]; omega) | exact ⟨rfl⟩)) ?_
                      refine WO_call Hvac.call33 (by rfl) (Ret.mono (yEnter_spec _ (OmB.ext hO (by repeat (first | assumption | exact Ext.refl _ | refine Ext.alloc ?_ _ | refine Ext.drew ?_ | refine Ext.setB ?_ (by first | omega | (simp only [size_alloc, size_setB, size_drew]; omega)) _ | exact Ext.trans (by assumption) (by assumption) | refine Ext.trans ?_ (by assumption)))) Y C _ _ [] [] (N + 90) (YX.ext hXp (by repeat (first | assumption | exact Ext.refl _ | refine Ext.alloc ?_ _ | refine Ext.drew ?_ | refine Ext.setB ?_ (by first | omega | (simp only [size_alloc, size_setB, size_drew]; omega)) _ | exact Ext.trans (by assumption) (by assumption) | refine Ext.trans ?_ (by assumption)))) hBp (by omega) hYBp (by decide) _ _ (FrR.ext hfrp58 (by repeat (first | assumption | exact Ext.refl _ | refine Ext.alloc ?_ _ | refine Ext.drew ?_ | refine Ext.setB ?_ (by first | omega | (simp only [size_alloc, size_setB, size_drew]; omega)) _ | exact Ext.trans (by assumption) (by assumption) | refine Ext.trans ?_ (by assumption)))) hxfm hcm2 hcv9 hck9) ?_)
                      rintro _ w60 ⟨rfl, hY60⟩
                      refine WO_nil ?_
                      refine thn_normal ?_
                      refine W_seq ?_
                      refine W_region rfl ?_
                      refine WO_p (PS_assign_int rfl) ?_
                      refine WO_nil ?_
                      refine thn_normal ?_
                      refine W_ret ?_
                      refine bodyQ_ret1 Hvac.results6 rfl (.int _ _) rfl ?_
                      have e9 : ybegin ks y t = yenter { yb5 ks y t with phase := 1 } [] (ybf ks y t) := (by unfold ybegin; rw [if_neg hntk]); refine ⟨fun h9 => absurd hv h9, fun _ => ⟨rfl, ?_⟩⟩; rw [e9]; exact YRet.pre (hKp.extR (by repeat (first | assumption | exact Ext.refl _ | refine Ext.alloc ?_ _ | refine Ext.drew ?_ | refine Ext.setB ?_ (by first | omega | (simp only [size_alloc, size_setB, size_drew]; omega)) _ | refine Ext.trans ?_ (by assumption)))) hY60

end Go.Proofs.YgvacwGreat
