import Derived.Test.YgvadwGreatZd
import Derived.Test.YgvadwGreatOl
import Derived.Test.YgvadwGreatMv
namespace Go.Proofs.YgvadwGreat
set_option linter.unusedSimpArgs false
set_option linter.unusedVariables false
theorem by4 : By [0, 0, 0, 0, 0, 0, 0, 0, 0, 0, 0, 0, 0, 0, 0, 0, 0, 0, 0, 4] 20 := ⟨rfl, by decide⟩
theorem by5 : By [0, 0, 0, 0, 0, 0, 0, 0, 0, 0, 0, 0, 0, 0, 0, 0, 0, 0, 0, 5] 20 := ⟨rfl, by decide⟩
theorem nat_bd (A : List Int) : ntvW A = 0 ∨ ntvW A = 4 ∨ ntvW A = 5 := by
  unfold ntvW
  repeat' split
  all_goals first | exact Or.inl rfl | exact Or.inr (Or.inl rfl) | exact Or.inr (Or.inr rfl) | omega
structure OMc (m n : Mc) (mk : List Int) (a s g x : Int) (h p o : List Int) : Prop where
  ecb : n.ecb = m.ecb
  bfee : n.ebfee = m.ebfee
  ehash : n.ehash = m.ehash
  buf : n.buf = m.buf
  base : n.base = m.base
  frames : n.frames = m.frames
  top : n.top = m.top
  mtop : n.mtop = m.mtop
  status : n.status = m.status
  a0 : n.a0 = a
  s0 : n.s0 = s
  applied : n.applied = 1
  limit : n.limit = g
  txgas : n.txgas = x
  held : n.held = h
  price : n.price = p
  origin : n.origin = o
  ret : n.ret = (none, 0, 0)
theorem omc (m : Mc) (mk : List Int) (a s g x : Int) (h p o : List Int) : OMc m ((((((((((m.sMade mk).sA0 a).sS0 s).sApp 1).sLim g).sTx x).sHeld h).sPr p).sOr o).sRet (none, 0, 0)) mk a s g x h p o := by
  constructor <;> dsimp only [Mc.sMade, Mc.sA0, Mc.sS0, Mc.sApp, Mc.sLim, Mc.sTx, Mc.sHeld, Mc.sPr, Mc.sOr, Mc.sRet]
theorem fok_open {y : V} {g : Fm} {L : List Int} (hk : g.kind = 0 ∨ g.kind = 1) (hsp : g.sp = 0) (hpc : g.pc = 0) (hL : L.length ≤ 512) (hil : g.inputY.2.1 ≤ 717280 ∧ g.inputY.2.1 ≤ g.inputY.2.2) (hcc : g.code.2.1 ≤ g.code.2.2) (hnt : g.ntv ≠ 0 → (g.ntv = 4 ∨ g.ntv = 5) ∧ L.length = 0 ∧ g.kind = 0) (hen : y.entered g.self) (n : Int) : FOK scanW y 0 ((g.sCb L).at_ 0 n) where
  depth := rfl
  sb := rfl
  sp := by show g.sp ≤ 64; omega
  cl := hL
  pc := by show g.pc ≤ (L.length : Int) + 33; omega
  ds := rfl
  il := hil
  cc := hcc
  nt := fun h => ⟨(hnt h).1, (hnt h).2.1, by show makes g.kind = false; rw [(hnt h).2.2]; rfl⟩
  kd := ⟨by show g.kind ≤ 7; omega, ⟨fun _ => rfl, fun _ => by show g.kind ≤ 1; omega⟩⟩
  en := hen
theorem ksum_mono (l : List Ax) : ∀ i j, i ≤ j → ksum l i ≤ ksum l j := by
  intro i j h
  induction j with
  | zero => obtain rfl : i = 0 := (by omega); exact Nat.le_refl _
  | succ j ih =>
    rcases Nat.lt_or_ge i (j + 1) with h1 | h1
    · have := ih (by omega)
      show _ ≤ ksum l j + _
      omega
    · obtain rfl : i = j + 1 := by omega
      exact Nat.le_refl _

set_option maxRecDepth 10000 in
set_option maxHeartbeats 8000000 in
theorem open_spec (w0 : World) (C : Nat) (c : Array Value) (v : V) (B : VB) (m : Mc) (t : Tx) (Sb : Int) (w : World) (he : Ext w0 w) (hM : MS w C c v B m) (hId : IdM m) (hF : FilV v 8 128 Sb) (hSb : Sb < 115792089237316195423570985008687907853269984665640564039457584007913129639936) (htx : TxOK w0 t) (hlow : ∀ b, MOwn C B m b → w0.heap.size ≤ b) : Ret Hvad.prog 13 #[.pointer (some ⟨C, 0, none⟩), .agg (encTx t).toArray] w fun u w' => (∃ k : Int, u = .int .u8 k) ∧ ∃ v' m' S, MRet w C B m w' v' m' ∧ (RI scanW v' m' 0 0 S ∨ (m'.phase ≠ 1 ∧ Ck v' m' 0 S)) := by
  have hblk := hM.vs.blk
  have hCl := hblk.lt
  have hcs := hM.sz
  have hat := txAt htx
  have ht_fr := hat.fr
  have ht_to := hat.to_
  have ht_cr := hat.cr
  have ht_no := hat.no
  have ht_ga := hat.ga
  have ht_va := hat.va
  have ht_da := hat.da
  have ht_ac := hat.acY
  have htl2 : (encTx t).toArray.size = 174 := by simpa using encTx_len htx
  have hxt : Xt (encTx t).toArray 0 (0 + 174) (encTx t).toArray := Xt.whole rfl htl2
  have hlf := htx.fr.1
  have hlt := htx.to_.1
  have hlv := htx.va.1
  have hdal := htx.da.len
  have hga := htx.ga
  have hno := htx.no
  have hla := hF.la
  have hls := hF.ls
  have hWv := fromB_wd htx.va.2
  have hbv := wv_bd hWv
  have hwb := bal_wd hM.vs.ty t.fr
  have hWb := wv_bd hwb
  have hcdl : ∀ x ∈ v.accts, x.code.2.1 ≤ 256 := fun x hx => (hF.vi.cd x hx).1
  have hc_s : Ce c 0 (.pointer (some ⟨C, 2435, none⟩)) := hM.rep.s
  have htxw := htx.ext he
  have hG0 := hF.opg
  have hsm := hF.sm
  refine Ret_of_W Hvad.func13 rfl rfl ?_
  refine W_seq ?_
  refine W_region rfl ?_
  refine WO_boxG (.agg _) rfl ?_
  intro b3 v3 hg3 hE3 hH3 hl3
  try simp only [size_alloc, size_setB, size_drew] at hg3
  have hzz3 := hE3.1
  try simp only [size_alloc, size_setB, size_drew] at hzz3
  refine WO_p (PS_assign_int rfl) ?_
  refine WO_nil ?_
  refine thn_normal ?_
  refine W_seq ?_
  refine W_region rfl ?_
  refine WO_p (PS_move_ptr rfl) ?_
  refine WO_loadA _ Hvad.isAgg35 Hvad.sizeOf35 rfl (Hb.h (by repeat (first | assumption | exact Hb.newY _ _ | refine Hb.alloc ?_ | refine Hb.drew ?_ | refine Hb.ext (by assumption) ?_ | exact Hb.setSameL (by first | omega | (simp only [size_alloc, size_setB, size_drew]; omega)) | exact Hb.setSame (by assumption) | refine Hb.set (by first | omega | (simp only [size_alloc, size_setB, size_drew]; omega)) ?_ ))) (by first | omega | assumption | rfl | decide | exact Nat.le_refl _ | (simp only [size_ic, Value.cells]; omega) | simp) (Xt.h (by first | assumption | exact Xt.whole rfl rfl | exact Xt.whole rfl (by simp only [size_ic, Value.cells]; omega) | exact ⟨rfl⟩)) ?_
  refine WO_call Hvad.call27 (by rfl) (Ret.mono (verdict_spec C c v B m t _ (MS.ext hM (by repeat (first | assumption | exact Ext.refl _ | refine Ext.alloc ?_ _ | refine Ext.drew ?_ | refine Ext.setB ?_ (by first | omega | (simp only [size_alloc, size_setB, size_drew]; omega)) _ | exact Ext.trans (by assumption) (by assumption) | refine Ext.trans ?_ (by assumption)))) hId.ph hId.ap hcdl (htxw.ext (by repeat (first | assumption | exact Ext.refl _ | refine Ext.alloc ?_ _ | refine Ext.drew ?_ | refine Ext.setB ?_ (by first | omega | (simp only [size_alloc, size_setB, size_drew]; omega)) _ | exact Ext.trans (by assumption) (by assumption) | refine Ext.trans ?_ (by assumption))))) ?_)
  rintro _ w1 ⟨hE1, kv, pr, rfl, hWp, hkv, hver⟩
  have hz1 := hE1.1
  try simp only [size_alloc, size_setB, size_drew] at hz1
  have hprl := hWp.1
  have hbp := wv_bd hWp
  refine WO_p (PS_move_tuple rfl) ?_
  refine WO_p (PS_extract_int rfl rfl) ?_
  refine WO_p (PS_extract_agg rfl rfl) ?_
  refine WO_allocG Hvad.zeroValue59 ?_
  intro b6 v6 hg6 hE6 hH6 hl6
  try simp only [size_alloc, size_setB, size_drew] at hg6
  have hzz6 := hE6.1
  try simp only [size_alloc, size_setB, size_drew] at hzz6
  replace hH6 : Hb v6 b6 (.cells (ic .u64 [0, 0, 0, 0]) 59 (0, 0)) := hH6
  refine WO_p (PS_assign_int rfl) ?_
  first | refine WO_storeW Hvad.sizeOf59 rfl (v := .agg _) rfl (Hb.h (by repeat (first | assumption | exact Hb.newY _ _ | refine Hb.alloc ?_ | refine Hb.drew ?_ | refine Hb.ext (by assumption) ?_ | exact Hb.setSameL (by first | omega | (simp only [size_alloc, size_setB, size_drew]; omega)) | exact Hb.setSame (by assumption) | refine Hb.set (by first | omega | (simp only [size_alloc, size_setB, size_drew]; omega)) ?_ ))) rfl (by first | omega | assumption | rfl | decide | exact Nat.le_refl _ | (simp only [size_ic, Value.cells]; omega) | simp) (by first | omega | assumption | rfl | decide | exact Nat.le_refl _ | (simp only [size_ic, Value.cells]; omega) | simp) (by first | exact oneCell_ic | assumption) ?_ | refine WO_store Hvad.sizeOf59 rfl (v := .agg _) rfl (Hb.h (by repeat (first | assumption | exact Hb.newY _ _ | refine Hb.alloc ?_ | refine Hb.drew ?_ | refine Hb.ext (by assumption) ?_ | exact Hb.setSameL (by first | omega | (simp only [size_alloc, size_setB, size_drew]; omega)) | exact Hb.setSame (by assumption) | refine Hb.set (by first | omega | (simp only [size_alloc, size_setB, size_drew]; omega)) ?_ ))) (by first | omega | assumption | rfl | decide | exact Nat.le_refl _ | (simp only [size_ic, Value.cells]; omega) | simp) (by first | omega | assumption | rfl | decide | exact Nat.le_refl _ | (simp only [size_ic, Value.cells]; omega) | simp) (by first | exact oneCell_ic | assumption) ?_
  refine WO_nil ?_
  refine thn_normal ?_
  refine W_seq ?_
  refine W_seq ?_
  refine W_region rfl ?_
  refine WO_p (PS_move_int rfl) ?_
  refine WO_p (PS_neq rfl rfl) ?_
  refine WO_nil ?_
  refine thn_normal ?_
  refine W_if rfl (fun hb3 => ?_) (fun hb3 => ?_)
  · have hb3p := hb3.h; try simp only [al_ete, al_dfn, Bool.not_eq_true', Bool.not_eq_false', al_ne, Bool.not_not, al_nn] at hb3p
    have hk0 : kv ≠ 0 := hb3p
    refine W_seq ?_
    refine W_region rfl ?_
    refine WO_p (PS_move_int rfl) ?_
    refine WO_p (PS_assign_int rfl) ?_
    refine WO_nil ?_
    refine thn_normal ?_
    refine W_ret ?_
    refine thn_ret ?_
    refine bodyQ_ret1 Hvad.results13 rfl (.int _ _) rfl ?_
    exact ⟨⟨_, rfl⟩, v, m, 0, MRet.of_ms hM (by repeat (first | assumption | exact Ext.refl _ | refine Ext.alloc ?_ _ | refine Ext.drew ?_ | refine Ext.setB ?_ (by first | omega | (simp only [size_alloc, size_setB, size_drew]; omega)) _ | exact Ext.trans (by assumption) (by assumption) | refine Ext.trans ?_ (by assumption))), Or.inr ⟨by rw [hId.ph]; decide, ck_idle hId hF hSb⟩⟩
  · have hb3p := hb3.h; try simp only [al_ete, al_dfn, Bool.not_eq_true', Bool.not_eq_false', al_ne, Bool.not_not, al_nn] at hb3p
    have hV : VerOK v m t pr := hver (by omega)
    have hVi := hV.i
    have hVn := hV.n
    have hVg := hV.g
    have hintY := intr_bd hV.d hV.l
    have hVd := hV.d
    have hVl := hV.l.a
    have hVk := hV.l.k t.al.length (Nat.le_refl _)
    refine W_skip ?_
    refine thn_normal ?_
    refine W_seq ?_
    refine W_seq ?_
    refine W_region rfl ?_
    refine WO_p (PS_move_ptr rfl) ?_
    refine WO_call Hvad.call28 (by rfl) (Ret.mono (spacious_spec C c v B m _ (MS.ext hM (by repeat (first | assumption | exact Ext.refl _ | refine Ext.alloc ?_ _ | refine Ext.drew ?_ | refine Ext.setB ?_ (by first | omega | (simp only [size_alloc, size_setB, size_drew]; omega)) _ | exact Ext.trans (by assumption) (by assumption) | refine Ext.trans ?_ (by assumption)))) hId.mtY hId.tp hla hls (by rw [hF.jl]; rfl) hF.nm) ?_)
    rintro _ w28_3 ⟨rfl, hE28_3⟩
    have hz28_3 := hE28_3.1
    try simp only [size_alloc, size_setB, size_drew] at hz28_3
    refine WO_p (PS_not rfl) ?_
    refine WO_nil ?_
    refine thn_normal ?_
    refine W_if rfl (fun hb7 => ?_) (fun hb7 => ?_)
    · have hb7p := hb7.h; try simp only [al_ete, al_dfn, Bool.not_eq_true', Bool.not_eq_false', al_ne, Bool.not_not, al_nn] at hb7p
      (exfalso; first | omega | (simp at hb7p; done) | cases hb7p) --END
    · have hb7p := hb7.h; try simp only [al_ete, al_dfn, Bool.not_eq_true', Bool.not_eq_false', al_ne, Bool.not_not, al_nn] at hb7p
      refine W_skip ?_
      refine thn_normal ?_
      refine W_seq ?_
      refine W_region rfl ?_
      refine WO_p (PS_move_ptr rfl) ?_
      refine WO_p (PS_nilCheck rfl) ?_
      refine WO_p (PS_fieldAddr 0 Hvad.runUnderlying69 rfl Hvad.sizeOf53 rfl rfl) ?_
      refine WO_load (.pointer _) Hvad.isAgg53 rfl (Hb.h (by repeat (first | assumption | exact Hb.newY _ _ | refine Hb.alloc ?_ | refine Hb.drew ?_ | refine Hb.ext (by assumption) ?_ | exact Hb.setSameL (by first | omega | (simp only [size_alloc, size_setB, size_drew]; omega)) | exact Hb.setSame (by assumption) | refine Hb.set (by first | omega | (simp only [size_alloc, size_setB, size_drew]; omega)) ?_ ))) (Ce.h (by first | assumption | exact ⟨rfl⟩)) ?_
      refine WO_call Hvad.call29 (by rfl) (Ret.mono (sizes_spec C c v B (bb m) _ (VS.ext hM.vs (by repeat (first | assumption | exact Ext.refl _ | refine Ext.alloc ?_ _ | refine Ext.drew ?_ | refine Ext.setB ?_ (by first | omega | (simp only [size_alloc, size_setB, size_drew]; omega)) _ | exact Ext.trans (by assumption) (by assumption) | refine Ext.trans ?_ (by assumption))))) ?_)
      rintro _ w29_7 ⟨rfl, hE29_7⟩
      have hz29_7 := hE29_7.1
      try simp only [size_alloc, size_setB, size_drew] at hz29_7
      refine WO_p (PS_move_tuple rfl) ?_
      refine WO_p (PS_extract_int rfl rfl) ?_
      refine WO_p (PS_extract_int rfl rfl) ?_
      refine WO_p (PS_extract_int rfl rfl) ?_
      refine WO_p (PS_extract_int rfl rfl) ?_
      refine WO_p (PS_assign_int rfl) ?_
      refine WO_p (PS_assign_int rfl) ?_
      refine WO_p (PS_assign_int rfl) ?_
      refine WO_p (PS_assign_int rfl) ?_
      refine WO_nil ?_
      refine thn_normal ?_
      refine W_seq ?_
      refine W_region rfl ?_
      refine WO_p (PS_fieldAddr 20 Hvad.runUnderlying35 rfl Hvad.sizeOf25 rfl rfl) ?_
      refine WO_loadA _ Hvad.isAgg25 Hvad.sizeOf25 rfl (Hb.h (by repeat (first | assumption | exact Hb.newY _ _ | refine Hb.alloc ?_ | refine Hb.drew ?_ | refine Hb.ext (by assumption) ?_ | exact Hb.setSameL (by first | omega | (simp only [size_alloc, size_setB, size_drew]; omega)) | exact Hb.setSame (by assumption) | refine Hb.set (by first | omega | (simp only [size_alloc, size_setB, size_drew]; omega)) ?_ ))) (by first | omega | assumption | rfl | decide | exact Nat.le_refl _ | (simp only [size_ic, Value.cells]; omega) | simp) (Xt.h (by first | assumption | exact Xt.whole rfl rfl | exact Xt.whole rfl (by simp only [size_ic, Value.cells]; omega) | exact ⟨rfl⟩)) ?_
      refine WO_allocG Hvad.zeroValue25 ?_
      intro b11 v11 hg11 hE11 hH11 hl11
      try simp only [size_alloc, size_setB, size_drew] at hg11
      have hzz11 := hE11.1
      try simp only [size_alloc, size_setB, size_drew] at hzz11
      replace hH11 : Hb v11 b11 (.cells (ic .u8 (List.replicate 20 0)) 25 (0, 0)) := hH11
      first | refine WO_storeW Hvad.sizeOf25 rfl (v := .agg _) rfl (Hb.h (by repeat (first | assumption | exact Hb.newY _ _ | refine Hb.alloc ?_ | refine Hb.drew ?_ | refine Hb.ext (by assumption) ?_ | exact Hb.setSameL (by first | omega | (simp only [size_alloc, size_setB, size_drew]; omega)) | exact Hb.setSame (by assumption) | refine Hb.set (by first | omega | (simp only [size_alloc, size_setB, size_drew]; omega)) ?_ ))) rfl (by first | omega | assumption | rfl | decide | exact Nat.le_refl _ | (simp only [size_ic, Value.cells]; omega) | simp) (by first | omega | assumption | rfl | decide | exact Nat.le_refl _ | (simp only [size_ic, Value.cells]; omega) | simp) (by first | exact oneCell_ic | assumption) ?_ | refine WO_store Hvad.sizeOf25 rfl (v := .agg _) rfl (Hb.h (by repeat (first | assumption | exact Hb.newY _ _ | refine Hb.alloc ?_ | refine Hb.drew ?_ | refine Hb.ext (by assumption) ?_ | exact Hb.setSameL (by first | omega | (simp only [size_alloc, size_setB, size_drew]; omega)) | exact Hb.setSame (by assumption) | refine Hb.set (by first | omega | (simp only [size_alloc, size_setB, size_drew]; omega)) ?_ ))) (by first | omega | assumption | rfl | decide | exact Nat.le_refl _ | (simp only [size_ic, Value.cells]; omega) | simp) (by first | omega | assumption | rfl | decide | exact Nat.le_refl _ | (simp only [size_ic, Value.cells]; omega) | simp) (by first | exact oneCell_ic | assumption) ?_
      refine WO_nil ?_
      refine thn_normal ?_
      refine W_seq ?_
      refine W_gen2 fun w7 hw7 => ?_
      have hE7 : Ext w w7 := by rw [hw7]; exact (by repeat (first | assumption | exact Ext.refl _ | refine Ext.alloc ?_ _ | refine Ext.drew ?_ | refine Ext.setB ?_ (by first | omega | (simp only [size_alloc, size_setB, size_drew]; omega)) _ | exact Ext.trans (by assumption) (by assumption) | refine Ext.trans ?_ (by assumption)))
      have hb3 : Hb w7 b3 (.cells (encTx t).toArray 35 (0, 0)) := by rw [hw7]; exact Hb.mk (Hb.h (by repeat (first | assumption | exact Hb.newY _ _ | refine Hb.alloc ?_ | refine Hb.drew ?_ | refine Hb.ext (by assumption) ?_ | exact Hb.setSameL (by first | omega | (simp only [size_alloc, size_setB, size_drew]; omega)) | exact Hb.setSame (by assumption) | refine Hb.set (by first | omega | (simp only [size_alloc, size_setB, size_drew]; omega)) ?_ )))
      have hb6 : Hb w7 b6 (.cells (ic .u64 pr) 59 (0, 0)) := by rw [hw7]; exact Hb.mk (Hb.h (by repeat (first | assumption | exact Hb.newY _ _ | refine Hb.alloc ?_ | refine Hb.drew ?_ | refine Hb.ext (by assumption) ?_ | exact Hb.setSameL (by first | omega | (simp only [size_alloc, size_setB, size_drew]; omega)) | exact Hb.setSame (by assumption) | refine Hb.set (by first | omega | (simp only [size_alloc, size_setB, size_drew]; omega)) ?_ )))
      have hb11 : Hb w7 b11 (.cells (ic .u8 t.to_) 25 (0, 0)) := by rw [hw7]; exact Hb.mk (Hb.h (by repeat (first | assumption | exact Hb.newY _ _ | refine Hb.alloc ?_ | refine Hb.drew ?_ | refine Hb.ext (by assumption) ?_ | exact Hb.setSameL (by first | omega | (simp only [size_alloc, size_setB, size_drew]; omega)) | exact Hb.setSame (by assumption) | refine Hb.set (by first | omega | (simp only [size_alloc, size_setB, size_drew]; omega)) ?_ )))
      have hM7 := hM.ext hE7
      have hS7 : MStep w w7 C B m B m := MStep.ext hE7
      have hk7 := hM7.vs.blk
      have hkz7 := hM7.sz
      clear hw7
      refine W_region rfl ?_
      refine WO_p (PS_move_ptr rfl) ?_
      refine WO_p (PS_buildI (k := .u8) (zs := [0, 0, 0, 0, 0, 0, 0, 0, 0, 0, 0, 0, 0, 0, 0, 0, 0, 0, 0, 0]) (ps := []) (L := [0, 0, 0, 0, 0, 0, 0, 0, 0, 0, 0, 0, 0, 0, 0, 0, 0, 0, 0, 0]) Hvad.zeroValue25 Hvad.runUnderlying25 Hvad.sizeOf5 rfl rfl rfl rfl) ?_
      refine WO_p (PS_nilCheck rfl) ?_
      refine WO_p (PS_fieldAddr 2415 Hvad.runUnderlying69 rfl Hvad.sizeOf25 rfl rfl) ?_
      refine WO_store Hvad.sizeOf25 rfl (v := .agg (ic .u8 (List.replicate 20 0))) rfl (Hb.h hk7) rfl (by rw [hkz7]; decide) oneCell_ic ?_
      refine WO_nil ?_
      refine thn_normal ?_
      refine W_seqJ (fun ρ w' => ∃ (tg mk : List Int) (c11 : Array Value), By tg 20 ∧ By mk 20 ∧ MS w' C c11 v B (m.sMade mk) ∧ MStep w w' C B m B (m.sMade mk) ∧ Hb w' b3 (.cells (encTx t).toArray 35 (0, 0)) ∧ Hb w' b6 (.cells (ic .u64 pr) 59 (0, 0)) ∧ Hb w' b11 (.cells (ic .u8 tg) 25 (0, 0)) ∧ Fr [(0, .pointer (some ⟨C, 0, none⟩)), (3, .pointer (some ⟨b3, 0, none⟩)), (6, .pointer (some ⟨b6, 0, none⟩)), (7, .int .i32 v.accts.length), (8, .int .i32 v.slots.length), (10, .int .i32 v.nmarks), (11, .pointer (some ⟨b11, 0, none⟩))] ρ) ?_ ?_
      · skip
        refine W_seq ?_
        refine W_gen2 fun w8 hw8 => ?_
        obtain ⟨c8, hM8, hs8⟩ : ∃ c', MS w8 C c' v B (m.sMade (List.replicate 20 0)) ∧ MStep w7 w8 C B (m) B (m.sMade (List.replicate 20 0)) := by rw [hw8]; exact ⟨_, hM7.put_made (List.replicate 20 0) by20_0⟩
        clear hw8
        replace hb3 := hM7.box hs8 hb3 (by decide) (by decide)
        replace hb6 := hM7.box hs8 hb6 (by decide) (by decide)
        replace hb11 := hM7.box hs8 hb11 (by decide) (by decide)
        have hS8 := hS7.trans (MStep.pre (Ext.refl _) hs8)
        have hk8 := hM8.vs.blk
        have hkz8 := hM8.sz
        have hlb11 := hb11.lt
        refine W_region rfl ?_
        refine WO_p (PS_fieldAddr 40 Hvad.runUnderlying35 rfl Hvad.sizeOf4 rfl rfl) ?_
        refine WO_load (.bool _) Hvad.isAgg4 rfl (Hb.h (by repeat (first | assumption | exact Hb.newY _ _ | refine Hb.alloc ?_ | refine Hb.drew ?_ | refine Hb.ext (by assumption) ?_ | exact Hb.setSameL (by first | omega | (simp only [size_alloc, size_setB, size_drew]; omega)) | exact Hb.setSame (by assumption) | refine Hb.set (by first | omega | (simp only [size_alloc, size_setB, size_drew]; omega)) ?_ ))) (Ce.h (by first | assumption | exact ⟨rfl⟩)) ?_
        refine WO_nil ?_
        refine thn_normal ?_
        refine W_if rfl (fun hb10 => ?_) (fun hb10 => ?_)
        · have hb10p := hb10.h; try simp only [al_ete, al_dfn, Bool.not_eq_true', Bool.not_eq_false', al_ne, Bool.not_not, al_nn] at hb10p
          have hcr : t.create = true := hb10p
          refine W_seq ?_
          refine W_region rfl ?_
          refine WO_p (PS_fieldAddr 0 Hvad.runUnderlying35 rfl Hvad.sizeOf25 rfl rfl) ?_
          refine WO_loadA _ Hvad.isAgg25 Hvad.sizeOf25 rfl (Hb.h (by repeat (first | assumption | exact Hb.newY _ _ | refine Hb.alloc ?_ | refine Hb.drew ?_ | refine Hb.ext (by assumption) ?_ | exact Hb.setSameL (by first | omega | (simp only [size_alloc, size_setB, size_drew]; omega)) | exact Hb.setSame (by assumption) | refine Hb.set (by first | omega | (simp only [size_alloc, size_setB, size_drew]; omega)) ?_ ))) (by first | omega | assumption | rfl | decide | exact Nat.le_refl _ | (simp only [size_ic, Value.cells]; omega) | simp) (Xt.h (by first | assumption | exact Xt.whole rfl rfl | exact Xt.whole rfl (by simp only [size_ic, Value.cells]; omega) | exact ⟨rfl⟩)) ?_
          refine WO_p (PS_fieldAddr 41 Hvad.runUnderlying35 rfl Hvad.sizeOf26 rfl rfl) ?_
          refine WO_load (.int _ _) Hvad.isAgg26 rfl (Hb.h (by repeat (first | assumption | exact Hb.newY _ _ | refine Hb.alloc ?_ | refine Hb.drew ?_ | refine Hb.ext (by assumption) ?_ | exact Hb.setSameL (by first | omega | (simp only [size_alloc, size_setB, size_drew]; omega)) | exact Hb.setSame (by assumption) | refine Hb.set (by first | omega | (simp only [size_alloc, size_setB, size_drew]; omega)) ?_ ))) (Ce.h (by first | assumption | exact ⟨rfl⟩)) ?_
          refine WO_call Hvad.call30 (by rfl) (Ret.mono (createAddr_spec t.fr t.nonce _ htx.fr hno) ?_)
          rintro _ w10c ⟨hE10c, R10, rfl, hR10⟩
          have hz10c := hE10c.1
          have hR10l := hR10.1
          first | refine WO_storeW Hvad.sizeOf25 rfl (v := .agg _) rfl (Hb.h (by repeat (first | assumption | exact Hb.newY _ _ | refine Hb.alloc ?_ | refine Hb.drew ?_ | refine Hb.ext (by assumption) ?_ | exact Hb.setSameL (by first | omega | (simp only [size_alloc, size_setB, size_drew]; omega)) | exact Hb.setSame (by assumption) | refine Hb.set (by first | omega | (simp only [size_alloc, size_setB, size_drew]; omega)) ?_ ))) rfl (by first | omega | assumption | rfl | decide | exact Nat.le_refl _ | (simp only [size_ic, Value.cells]; omega) | simp) (by first | omega | assumption | rfl | decide | exact Nat.le_refl _ | (simp only [size_ic, Value.cells]; omega) | simp) (by first | exact oneCell_ic | assumption) ?_ | refine WO_store Hvad.sizeOf25 rfl (v := .agg _) rfl (Hb.h (by repeat (first | assumption | exact Hb.newY _ _ | refine Hb.alloc ?_ | refine Hb.drew ?_ | refine Hb.ext (by assumption) ?_ | exact Hb.setSameL (by first | omega | (simp only [size_alloc, size_setB, size_drew]; omega)) | exact Hb.setSame (by assumption) | refine Hb.set (by first | omega | (simp only [size_alloc, size_setB, size_drew]; omega)) ?_ ))) (by first | omega | assumption | rfl | decide | exact Nat.le_refl _ | (simp only [size_ic, Value.cells]; omega) | simp) (by first | omega | assumption | rfl | decide | exact Nat.le_refl _ | (simp only [size_ic, Value.cells]; omega) | simp) (by first | exact oneCell_ic | assumption) ?_
          refine WO_nil ?_
          refine thn_normal ?_
          refine W_gen2 fun w10 hw10 => ?_
          have hM10 : MS w10 C c8 v B (m.sMade (List.replicate 20 0)) := by rw [hw10]; exact (hM8.ext hE10c).locT (hb11.ext hE10c) (by decide)
          have hS10 : MStep w w10 C B m B (m.sMade (List.replicate 20 0)) := by rw [hw10]; exact (hS8.trans (MStep.ext hE10c)).loc (by omega) _
          have hb3q : Hb w10 b3 (.cells (encTx t).toArray 35 (0, 0)) := by rw [hw10]; exact (hb3.ext hE10c).set (by omega)
          have hb6q : Hb w10 b6 (.cells (ic .u64 pr) 59 (0, 0)) := by rw [hw10]; exact (hb6.ext hE10c).set (by omega)
          have hb11q : Hb w10 b11 (.cells (ic .u8 R10) 25 (0, 0)) := by rw [hw10]; exact Hb.setSame (hb11.ext hE10c)
          clear hb3 hb6 hb11
          have hb3 := hb3q
          have hb6 := hb6q
          have hb11 := hb11q
          have hR10l := hR10.1
          have hk10 := hM10.vs.blk
          have hkz10 := hM10.sz
          clear hw10 hb3q hb6q hb11q
          refine W_region rfl ?_
          refine WO_p (PS_move_ptr rfl) ?_
          refine WO_loadA _ Hvad.isAgg25 Hvad.sizeOf25 rfl (Hb.h (by repeat (first | assumption | exact Hb.newY _ _ | refine Hb.alloc ?_ | refine Hb.drew ?_ | refine Hb.ext (by assumption) ?_ | exact Hb.setSameL (by first | omega | (simp only [size_alloc, size_setB, size_drew]; omega)) | exact Hb.setSame (by assumption) | refine Hb.set (by first | omega | (simp only [size_alloc, size_setB, size_drew]; omega)) ?_ ))) (by first | omega | assumption | rfl | decide | exact Nat.le_refl _ | (simp only [size_ic, Value.cells]; omega) | simp) (Xt.h (by first | assumption | exact Xt.whole rfl rfl | exact Xt.whole rfl (by simp only [size_ic, Value.cells]; omega) | exact ⟨rfl⟩)) ?_
          refine WO_p (PS_nilCheck rfl) ?_
          refine WO_p (PS_fieldAddr 2415 Hvad.runUnderlying69 rfl Hvad.sizeOf25 rfl rfl) ?_
          refine WO_store Hvad.sizeOf25 rfl (v := .agg (ic .u8 R10)) rfl (Hb.h hk10) (by first | omega | assumption | rfl | decide | exact Nat.le_refl _ | (simp only [size_ic, Value.cells]; omega) | simp) (by rw [hkz10]; decide) (by first | exact oneCell_ic | assumption) ?_
          refine WO_nil ?_
          refine thn_normal ?_
          exact ⟨R10, R10, _, hR10, hR10, (hM10.put_made R10 hR10).1, hS10.trans (hM10.put_made R10 hR10).2, hM10.box (hM10.put_made R10 hR10).2 hb3 (by decide) (by decide), hM10.box (hM10.put_made R10 hR10).2 hb6 (by decide) (by decide), hM10.box (hM10.put_made R10 hR10).2 hb11 (by decide) (by decide), ⟨rfl, rfl, rfl, rfl, rfl, rfl, rfl, trivial⟩⟩
        · have hb10p := hb10.h; try simp only [al_ete, al_dfn, Bool.not_eq_true', Bool.not_eq_false', al_ne, Bool.not_not, al_nn] at hb10p
          have hcr : t.create = false := hb10p
          refine W_skip ?_
          refine thn_normal ?_
          exact ⟨t.to_, _, c8, htx.to_, by20_0, hM8, hS8, hb3, hb6, hb11, ⟨rfl, rfl, rfl, rfl, rfl, rfl, rfl, trivial⟩⟩
      · clear hb3 hb6 hb11
        intro ρ11 w11 hJ11
        obtain ⟨tg, mk, c11, htg, hmk, hM11, hS11, hb3, hb6, hb11, hFr11⟩ := hJ11
        refine W_env _ hFr11 ?_
        have hk11 := hM11.vs.blk
        have hkz11 := hM11.sz
        have htgl := htg.1
        refine W_seq ?_
        refine W_region rfl ?_
        refine WO_p (PS_move_ptr rfl) ?_
        refine WO_p (PS_move_int rfl) ?_
        refine WO_p (PS_nilCheck rfl) ?_
        refine WO_p (PS_fieldAddr 2413 Hvad.runUnderlying69 rfl Hvad.sizeOf21 rfl rfl) ?_
        refine WO_store1 Hvad.sizeOf21 rfl (v := .int _ _) rfl (Hb.h hk11) rfl (by rw [hkz11]; decide) rfl ?_
        refine WO_nil ?_
        refine thn_normal ?_
        refine W_seq ?_
        refine W_gen2 fun w12 hw12 => ?_
        obtain ⟨c12, hM12, hs12⟩ : ∃ c', MS w12 C c' v B ((m.sMade mk).sA0 (v.accts.length : Int)) ∧ MStep w11 w12 C B (m.sMade mk) B ((m.sMade mk).sA0 (v.accts.length : Int)) := by rw [hw12]; exact ⟨_, hM11.put_a0 (v.accts.length : Int) (by unfold I32; omega)⟩
        clear hw12
        replace hb3 := hM11.box hs12 hb3 (by decide) (by decide)
        replace hb6 := hM11.box hs12 hb6 (by decide) (by decide)
        replace hb11 := hM11.box hs12 hb11 (by decide) (by decide)
        have hS12 := hS11.trans (MStep.pre (Ext.refl _) hs12)
        have hk12 := hM12.vs.blk
        have hkz12 := hM12.sz
        refine W_region rfl ?_
        refine WO_p (PS_move_ptr rfl) ?_
        refine WO_p (PS_move_int rfl) ?_
        refine WO_p (PS_nilCheck rfl) ?_
        refine WO_p (PS_fieldAddr 2414 Hvad.runUnderlying69 rfl Hvad.sizeOf21 rfl rfl) ?_
        refine WO_store1 Hvad.sizeOf21 rfl (v := .int _ _) rfl (Hb.h hk12) rfl (by rw [hkz12]; decide) rfl ?_
        refine WO_nil ?_
        refine thn_normal ?_
        refine W_seq ?_
        refine W_gen2 fun w13 hw13 => ?_
        obtain ⟨c13, hM13, hs13⟩ : ∃ c', MS w13 C c' v B (((m.sMade mk).sA0 (v.accts.length : Int)).sS0 (v.slots.length : Int)) ∧ MStep w12 w13 C B ((m.sMade mk).sA0 (v.accts.length : Int)) B (((m.sMade mk).sA0 (v.accts.length : Int)).sS0 (v.slots.length : Int)) := by rw [hw13]; exact ⟨_, hM12.put_s0 (v.slots.length : Int) (by unfold I32; omega)⟩
        clear hw13
        replace hb3 := hM12.box hs13 hb3 (by decide) (by decide)
        replace hb6 := hM12.box hs13 hb6 (by decide) (by decide)
        replace hb11 := hM12.box hs13 hb11 (by decide) (by decide)
        have hS13 := hS12.trans (MStep.pre (Ext.refl _) hs13)
        have hk13 := hM13.vs.blk
        have hkz13 := hM13.sz
        have hcap : Ce c13 2406 (.int .u8 0) := by have h1 := hM13.rep.applied; rw [show (((m.sMade mk).sA0 (v.accts.length : Int)).sS0 (v.slots.length : Int)).applied = m.applied by dsimp only [Mc.sMade, Mc.sA0, Mc.sS0], hId.ap] at h1; exact h1
        refine W_region rfl ?_
        refine WO_p (PS_move_ptr rfl) ?_
        refine WO_p (PS_nilCheck rfl) ?_
        refine WO_p (PS_fieldAddr 2406 Hvad.runUnderlying69 rfl Hvad.sizeOf5 rfl rfl) ?_
        refine WO_load (.int _ _) Hvad.isAgg5 rfl (Hb.h (by repeat (first | assumption | exact Hb.newY _ _ | refine Hb.alloc ?_ | refine Hb.drew ?_ | refine Hb.ext (by assumption) ?_ | exact Hb.setSameL (by first | omega | (simp only [size_alloc, size_setB, size_drew]; omega)) | exact Hb.setSame (by assumption) | refine Hb.set (by first | omega | (simp only [size_alloc, size_setB, size_drew]; omega)) ?_ ))) (Ce.h (by first | assumption | exact ⟨rfl⟩)) ?_
        refine WO_p (PS_add_u8n rfl rfl (by omega) (by omega)) ?_
        refine WO_p (PS_nilCheck rfl) ?_
        refine WO_p (PS_fieldAddr 2406 Hvad.runUnderlying69 rfl Hvad.sizeOf5 rfl rfl) ?_
        refine WO_store1 Hvad.sizeOf5 rfl (v := .int _ _) rfl (Hb.h hk13) rfl (by rw [hkz13]; decide) rfl ?_
        refine WO_nil ?_
        refine thn_normal ?_
        refine W_seq ?_
        refine W_gen2 fun w14 hw14 => ?_
        obtain ⟨c14, hM14, hs14⟩ : ∃ c', MS w14 C c' v B ((((m.sMade mk).sA0 (v.accts.length : Int)).sS0 (v.slots.length : Int)).sApp 1) ∧ MStep w13 w14 C B (((m.sMade mk).sA0 (v.accts.length : Int)).sS0 (v.slots.length : Int)) B ((((m.sMade mk).sA0 (v.accts.length : Int)).sS0 (v.slots.length : Int)).sApp 1) := by rw [hw14]; exact ⟨_, hM13.put_applied 1 (by decide)⟩
        clear hw14
        replace hb3 := hM13.box hs14 hb3 (by decide) (by decide)
        replace hb6 := hM13.box hs14 hb6 (by decide) (by decide)
        replace hb11 := hM13.box hs14 hb11 (by decide) (by decide)
        have hS14 := hS13.trans (MStep.pre (Ext.refl _) hs14)
        have hk14 := hM14.vs.blk
        have hkz14 := hM14.sz
        refine W_region rfl ?_
        refine WO_p (PS_move_ptr rfl) ?_
        refine WO_p (PS_fieldAddr 42 Hvad.runUnderlying35 rfl Hvad.sizeOf26 rfl rfl) ?_
        refine WO_load (.int _ _) Hvad.isAgg26 rfl (Hb.h (by repeat (first | assumption | exact Hb.newY _ _ | refine Hb.alloc ?_ | refine Hb.drew ?_ | refine Hb.ext (by assumption) ?_ | exact Hb.setSameL (by first | omega | (simp only [size_alloc, size_setB, size_drew]; omega)) | exact Hb.setSame (by assumption) | refine Hb.set (by first | omega | (simp only [size_alloc, size_setB, size_drew]; omega)) ?_ ))) (Ce.h (by first | assumption | exact ⟨rfl⟩)) ?_
        refine WO_p (PS_nilCheck rfl) ?_
        refine WO_p (PS_fieldAddr 2407 Hvad.runUnderlying69 rfl Hvad.sizeOf26 rfl rfl) ?_
        refine WO_store1 Hvad.sizeOf26 rfl (v := .int _ _) rfl (Hb.h hk14) rfl (by rw [hkz14]; decide) rfl ?_
        refine WO_nil ?_
        refine thn_normal ?_
        refine W_seq ?_
        refine W_gen2 fun w15 hw15 => ?_
        obtain ⟨c15, hM15, hs15⟩ : ∃ c', MS w15 C c' v B (((((m.sMade mk).sA0 (v.accts.length : Int)).sS0 (v.slots.length : Int)).sApp 1).sLim t.gas) ∧ MStep w14 w15 C B ((((m.sMade mk).sA0 (v.accts.length : Int)).sS0 (v.slots.length : Int)).sApp 1) B (((((m.sMade mk).sA0 (v.accts.length : Int)).sS0 (v.slots.length : Int)).sApp 1).sLim t.gas) := by rw [hw15]; exact ⟨_, hM14.put_limit t.gas hga⟩
        clear hw15
        replace hb3 := hM14.box hs15 hb3 (by decide) (by decide)
        replace hb6 := hM14.box hs15 hb6 (by decide) (by decide)
        replace hb11 := hM14.box hs15 hb11 (by decide) (by decide)
        have hS15 := hS14.trans (MStep.pre (Ext.refl _) hs15)
        have hk15 := hM15.vs.blk
        have hkz15 := hM15.sz
        have hEx15 : Ext w0 w15 := Ext.keepC he hS15.keep hlow
        have hD15 : Ext w15 w15.drew := (Ext.drew (Ext.refl _))
        refine W_drawE [false, false, false, false, true, false, false, false, false] hmix (by kernel_rfl) rfl ?_
        refine WH_p (PS_move_ptr rfl) rfl ?_
        refine WH_p (PS_fieldAddr 42 Hvad.runUnderlying35 rfl Hvad.sizeOf26 rfl rfl) rfl ?_
        refine WH_load (.int _ _) Hvad.isAgg26 rfl (Hb.h (by repeat (first | assumption | exact Hb.newY _ _ | refine Hb.alloc ?_ | refine Hb.drew ?_ | refine Hb.ext (by assumption) ?_ | exact Hb.setSameL (by first | omega | (simp only [size_alloc, size_setB, size_drew]; omega)) | exact Hb.setSame (by assumption) | refine Hb.set (by first | omega | (simp only [size_alloc, size_setB, size_drew]; omega)) ?_ ))) (Ce.h (by first | assumption | exact ⟨rfl⟩)) ?_
        refine WH_loadA _ Hvad.isAgg35 Hvad.sizeOf35 rfl (Hb.h (by repeat (first | assumption | exact Hb.newY _ _ | refine Hb.alloc ?_ | refine Hb.drew ?_ | refine Hb.ext (by assumption) ?_ | exact Hb.setSameL (by first | omega | (simp only [size_alloc, size_setB, size_drew]; omega)) | exact Hb.setSame (by assumption) | refine Hb.set (by first | omega | (simp only [size_alloc, size_setB, size_drew]; omega)) ?_ ))) (by first | omega | assumption | rfl | decide | exact Nat.le_refl _ | (simp only [size_ic, Value.cells]; omega) | simp) (Xt.h (by first | assumption | exact Xt.whole rfl rfl | exact Xt.whole rfl (by simp only [size_ic, Value.cells]; omega) | exact ⟨rfl⟩)) ?_
        refine WH_call Hvad.call31 (by rfl) (Ret.mono (intrinsic_spec t _ (htx.ext (Ext.trans hEx15 hD15)) hV.d hV.l) ?_)
        rintro _ wI16 ⟨rfl, hEI16⟩
        refine ⟨fun _ => (by repeat (first | assumption | exact Ext.refl _ | refine Ext.alloc ?_ _ | refine Ext.drew ?_ | refine Ext.setB ?_ (by first | omega | (simp only [size_alloc, size_setB, size_drew]; omega)) _ | exact Ext.trans (by assumption) (by assumption) | refine Ext.trans ?_ (by assumption))), ?_⟩
        refine WH_p (PS_sub_u64n rfl rfl (by omega) (by omega)) rfl ?_
        refine WH_p (PS_nilCheck rfl) rfl ?_
        refine WH_p (PS_fieldAddr 2408 Hvad.runUnderlying69 rfl Hvad.sizeOf26 rfl rfl) rfl ?_
        refine WH_store1 Hvad.sizeOf26 rfl (v := .int _ _) rfl (Hb.h (hk15.ext (Ext.trans (Ext.drew (Ext.refl _)) hEI16))) rfl (by rw [hkz15]; decide) rfl (fun h => by cases h) ?_
        refine WH_nil ?_
        refine thn_normal ?_
        refine W_seq ?_
        refine W_gen2 fun w16 hw16 => ?_
        obtain ⟨c16, hM16, hs16⟩ : ∃ c', MS w16 C c' v B ((((((m.sMade mk).sA0 (v.accts.length : Int)).sS0 (v.slots.length : Int)).sApp 1).sLim t.gas).sTx (t.gas - intrW t)) ∧ MStep wI16 w16 C B (((((m.sMade mk).sA0 (v.accts.length : Int)).sS0 (v.slots.length : Int)).sApp 1).sLim t.gas) B ((((((m.sMade mk).sA0 (v.accts.length : Int)).sS0 (v.slots.length : Int)).sApp 1).sLim t.gas).sTx (t.gas - intrW t)) := by rw [hw16]; exact ⟨_, (hM15.ext (Ext.trans (Ext.drew (Ext.refl _)) hEI16)).put_txgas (t.gas - intrW t) (by omega)⟩
        clear hw16
        replace hb3 := (hM15.ext (Ext.trans (Ext.drew (Ext.refl _)) hEI16)).box hs16 (hb3.ext (Ext.trans (Ext.drew (Ext.refl _)) hEI16)) (by decide) (by decide)
        replace hb6 := (hM15.ext (Ext.trans (Ext.drew (Ext.refl _)) hEI16)).box hs16 (hb6.ext (Ext.trans (Ext.drew (Ext.refl _)) hEI16)) (by decide) (by decide)
        replace hb11 := (hM15.ext (Ext.trans (Ext.drew (Ext.refl _)) hEI16)).box hs16 (hb11.ext (Ext.trans (Ext.drew (Ext.refl _)) hEI16)) (by decide) (by decide)
        have hS16 := hS15.trans (MStep.pre (Ext.trans (Ext.drew (Ext.refl _)) hEI16) hs16)
        have hk16 := hM16.vs.blk
        have hkz16 := hM16.sz
        refine W_region rfl ?_
        refine WO_p (PS_move_ptr rfl) ?_
        refine WO_p (PS_fieldAddr 42 Hvad.runUnderlying35 rfl Hvad.sizeOf26 rfl rfl) ?_
        refine WO_load (.int _ _) Hvad.isAgg26 rfl (Hb.h (by repeat (first | assumption | exact Hb.newY _ _ | refine Hb.alloc ?_ | refine Hb.drew ?_ | refine Hb.ext (by assumption) ?_ | exact Hb.setSameL (by first | omega | (simp only [size_alloc, size_setB, size_drew]; omega)) | exact Hb.setSame (by assumption) | refine Hb.set (by first | omega | (simp only [size_alloc, size_setB, size_drew]; omega)) ?_ ))) (Ce.h (by first | assumption | exact ⟨rfl⟩)) ?_
        refine WO_p (PS_buildI (k := .u64) (zs := [0, 0, 0, 0]) (ps := [(0, _)]) (L := [_, 0, 0, 0]) Hvad.zeroValue59 Hvad.runUnderlying59 Hvad.sizeOf26 rfl rfl rfl rfl) ?_
        refine WO_loadA _ Hvad.isAgg59 Hvad.sizeOf59 rfl (Hb.h (by repeat (first | assumption | exact Hb.newY _ _ | refine Hb.alloc ?_ | refine Hb.drew ?_ | refine Hb.ext (by assumption) ?_ | exact Hb.setSameL (by first | omega | (simp only [size_alloc, size_setB, size_drew]; omega)) | exact Hb.setSame (by assumption) | refine Hb.set (by first | omega | (simp only [size_alloc, size_setB, size_drew]; omega)) ?_ ))) (by first | omega | assumption | rfl | decide | exact Nat.le_refl _ | (simp only [size_ic, Value.cells]; omega) | simp) (Xt.h (by first | assumption | exact Xt.whole rfl rfl | exact Xt.whole rfl (by simp only [size_ic, Value.cells]; omega) | exact ⟨rfl⟩)) ?_
        refine WO_call Hvad.call32 (by rfl) (Ret.mono (mul_spec [t.gas, 0, 0, 0] pr _ (wd1 hga) hWp) ?_)
        rintro _ wI17 ⟨rfl, hEI17⟩
        rw [wv1]
        generalize hHD : ofV (t.gas * wv pr % 115792089237316195423570985008687907853269984665640564039457584007913129639936) = HD at *
        have hWH : Wd HD := by rw [← hHD]; exact ofV_wd _
        have hHl := hWH.1
        have hgp : 0 ≤ t.gas * wv pr := Int.mul_nonneg hga.1 hbp.1
        have hVf := hV.f
        have hvHD : wv HD = t.gas * wv pr := by rw [← hHD, wv_ofV (by omega) (by omega)]; omega
        refine WO_p (PS_nilCheck rfl) ?_
        refine WO_p (PS_fieldAddr 2409 Hvad.runUnderlying69 rfl Hvad.sizeOf59 rfl rfl) ?_
        refine WO_store Hvad.sizeOf59 rfl (v := .agg (ic .u64 HD)) rfl (Hb.h (hk16.ext hEI17)) (by first | omega | assumption | rfl | decide | exact Nat.le_refl _ | (simp only [size_ic, Value.cells]; omega) | simp) (by rw [hkz16]; decide) (by first | exact oneCell_ic | assumption) ?_
        refine WO_nil ?_
        refine thn_normal ?_
        refine W_seq ?_
        refine W_gen2 fun w17 hw17 => ?_
        obtain ⟨c17, hM17, hs17⟩ : ∃ c', MS w17 C c' v B (((((((m.sMade mk).sA0 (v.accts.length : Int)).sS0 (v.slots.length : Int)).sApp 1).sLim t.gas).sTx (t.gas - intrW t)).sHeld HD) ∧ MStep wI17 w17 C B ((((((m.sMade mk).sA0 (v.accts.length : Int)).sS0 (v.slots.length : Int)).sApp 1).sLim t.gas).sTx (t.gas - intrW t)) B (((((((m.sMade mk).sA0 (v.accts.length : Int)).sS0 (v.slots.length : Int)).sApp 1).sLim t.gas).sTx (t.gas - intrW t)).sHeld HD) := by rw [hw17]; exact ⟨_, (hM16.ext hEI17).put_held HD hWH⟩
        clear hw17
        replace hb3 := (hM16.ext hEI17).box hs17 (hb3.ext hEI17) (by decide) (by decide)
        replace hb6 := (hM16.ext hEI17).box hs17 (hb6.ext hEI17) (by decide) (by decide)
        replace hb11 := (hM16.ext hEI17).box hs17 (hb11.ext hEI17) (by decide) (by decide)
        have hS17 := hS16.trans (MStep.pre hEI17 hs17)
        have hk17 := hM17.vs.blk
        have hkz17 := hM17.sz
        refine W_region rfl ?_
        refine WO_p (PS_move_ptr rfl) ?_
        refine WO_loadA _ Hvad.isAgg59 Hvad.sizeOf59 rfl (Hb.h (by repeat (first | assumption | exact Hb.newY _ _ | refine Hb.alloc ?_ | refine Hb.drew ?_ | refine Hb.ext (by assumption) ?_ | exact Hb.setSameL (by first | omega | (simp only [size_alloc, size_setB, size_drew]; omega)) | exact Hb.setSame (by assumption) | refine Hb.set (by first | omega | (simp only [size_alloc, size_setB, size_drew]; omega)) ?_ ))) (by first | omega | assumption | rfl | decide | exact Nat.le_refl _ | (simp only [size_ic, Value.cells]; omega) | simp) (Xt.h (by first | assumption | exact Xt.whole rfl rfl | exact Xt.whole rfl (by simp only [size_ic, Value.cells]; omega) | exact ⟨rfl⟩)) ?_
        refine WO_p (PS_nilCheck rfl) ?_
        refine WO_p (PS_fieldAddr 2400 Hvad.runUnderlying69 rfl Hvad.sizeOf59 rfl rfl) ?_
        refine WO_store Hvad.sizeOf59 rfl (v := .agg (ic .u64 pr)) rfl (Hb.h hk17) (by first | omega | assumption | rfl | decide | exact Nat.le_refl _ | (simp only [size_ic, Value.cells]; omega) | simp) (by rw [hkz17]; decide) (by first | exact oneCell_ic | assumption) ?_
        refine WO_nil ?_
        refine thn_normal ?_
        refine W_seq ?_
        refine W_gen2 fun w18 hw18 => ?_
        obtain ⟨c18, hM18, hs18⟩ : ∃ c', MS w18 C c' v B ((((((((m.sMade mk).sA0 (v.accts.length : Int)).sS0 (v.slots.length : Int)).sApp 1).sLim t.gas).sTx (t.gas - intrW t)).sHeld HD).sPr pr) ∧ MStep w17 w18 C B (((((((m.sMade mk).sA0 (v.accts.length : Int)).sS0 (v.slots.length : Int)).sApp 1).sLim t.gas).sTx (t.gas - intrW t)).sHeld HD) B ((((((((m.sMade mk).sA0 (v.accts.length : Int)).sS0 (v.slots.length : Int)).sApp 1).sLim t.gas).sTx (t.gas - intrW t)).sHeld HD).sPr pr) := by rw [hw18]; exact ⟨_, hM17.put_price pr hWp⟩
        clear hw18
        replace hb3 := hM17.box hs18 hb3 (by decide) (by decide)
        replace hb6 := hM17.box hs18 hb6 (by decide) (by decide)
        replace hb11 := hM17.box hs18 hb11 (by decide) (by decide)
        have hS18 := hS17.trans (MStep.pre (Ext.refl _) hs18)
        have hk18 := hM18.vs.blk
        have hkz18 := hM18.sz
        refine W_region rfl ?_
        refine WO_p (PS_move_ptr rfl) ?_
        refine WO_p (PS_fieldAddr 0 Hvad.runUnderlying35 rfl Hvad.sizeOf25 rfl rfl) ?_
        refine WO_loadA _ Hvad.isAgg25 Hvad.sizeOf25 rfl (Hb.h (by repeat (first | assumption | exact Hb.newY _ _ | refine Hb.alloc ?_ | refine Hb.drew ?_ | refine Hb.ext (by assumption) ?_ | exact Hb.setSameL (by first | omega | (simp only [size_alloc, size_setB, size_drew]; omega)) | exact Hb.setSame (by assumption) | refine Hb.set (by first | omega | (simp only [size_alloc, size_setB, size_drew]; omega)) ?_ ))) (by first | omega | assumption | rfl | decide | exact Nat.le_refl _ | (simp only [size_ic, Value.cells]; omega) | simp) (Xt.h (by first | assumption | exact Xt.whole rfl rfl | exact Xt.whole rfl (by simp only [size_ic, Value.cells]; omega) | exact ⟨rfl⟩)) ?_
        refine WO_p (PS_nilCheck rfl) ?_
        refine WO_p (PS_fieldAddr 2380 Hvad.runUnderlying69 rfl Hvad.sizeOf25 rfl rfl) ?_
        refine WO_store Hvad.sizeOf25 rfl (v := .agg (ic .u8 t.fr)) rfl (Hb.h hk18) (by first | omega | assumption | rfl | decide | exact Nat.le_refl _ | (simp only [size_ic, Value.cells]; omega) | simp) (by rw [hkz18]; decide) (by first | exact oneCell_ic | assumption) ?_
        refine WO_nil ?_
        refine thn_normal ?_
        refine W_seq ?_
        refine W_gen2 fun w19 hw19 => ?_
        obtain ⟨c19, hM19, hs19⟩ : ∃ c', MS w19 C c' v B (((((((((m.sMade mk).sA0 (v.accts.length : Int)).sS0 (v.slots.length : Int)).sApp 1).sLim t.gas).sTx (t.gas - intrW t)).sHeld HD).sPr pr).sOr t.fr) ∧ MStep w18 w19 C B ((((((((m.sMade mk).sA0 (v.accts.length : Int)).sS0 (v.slots.length : Int)).sApp 1).sLim t.gas).sTx (t.gas - intrW t)).sHeld HD).sPr pr) B (((((((((m.sMade mk).sA0 (v.accts.length : Int)).sS0 (v.slots.length : Int)).sApp 1).sLim t.gas).sTx (t.gas - intrW t)).sHeld HD).sPr pr).sOr t.fr) := by rw [hw19]; exact ⟨_, hM18.put_origin t.fr htx.fr⟩
        clear hw19
        replace hb3 := hM18.box hs19 hb3 (by decide) (by decide)
        replace hb6 := hM18.box hs19 hb6 (by decide) (by decide)
        replace hb11 := hM18.box hs19 hb11 (by decide) (by decide)
        have hS19 := hS18.trans (MStep.pre (Ext.refl _) hs19)
        have hk19 := hM19.vs.blk
        have hkz19 := hM19.sz
        refine W_region rfl ?_
        refine WO_p (PS_move_ptr rfl) ?_
        refine WO_p (PS_nilCheck rfl) ?_
        refine WO_p (PS_fieldAddr 2259 Hvad.runUnderlying69 rfl Hvad.sizeOf32 rfl rfl) ?_
        refine WO_store1 Hvad.sizeOf32 rfl (v := .slice _ _ _) rfl (Hb.h hk19) rfl (by rw [hkz19]; decide) rfl ?_
        refine WO_nil ?_
        refine thn_normal ?_
        refine W_seq ?_
        refine W_gen2 fun w20 hw20 => ?_
        obtain ⟨c20, hM20, hs20⟩ : ∃ c', MS w20 C c' v B ((((((((((m.sMade mk).sA0 (v.accts.length : Int)).sS0 (v.slots.length : Int)).sApp 1).sLim t.gas).sTx (t.gas - intrW t)).sHeld HD).sPr pr).sOr t.fr).sRet (none, 0, 0)) ∧ MStep w19 w20 C B (((((((((m.sMade mk).sA0 (v.accts.length : Int)).sS0 (v.slots.length : Int)).sApp 1).sLim t.gas).sTx (t.gas - intrW t)).sHeld HD).sPr pr).sOr t.fr) B ((((((((((m.sMade mk).sA0 (v.accts.length : Int)).sS0 (v.slots.length : Int)).sApp 1).sLim t.gas).sTx (t.gas - intrW t)).sHeld HD).sPr pr).sOr t.fr).sRet (none, 0, 0)) := by rw [hw20]; exact ⟨_, hM19.put_ret (none, 0, 0) (Or.inl ⟨rfl, rfl⟩)⟩
        clear hw20
        replace hb3 := hM19.box hs20 hb3 (by decide) (by decide)
        replace hb6 := hM19.box hs20 hb6 (by decide) (by decide)
        replace hb11 := hM19.box hs20 hb11 (by decide) (by decide)
        have hS20 := hS19.trans (MStep.pre (Ext.refl _) hs20)
        have hk20 := hM20.vs.blk
        have hkz20 := hM20.sz
        obtain ⟨m20, hm20⟩ : ∃ x, x = (((((((((m.sMade mk).sA0 (v.accts.length : Int)).sS0 (v.slots.length : Int)).sApp 1).sLim t.gas).sTx (t.gas - intrW t)).sHeld HD).sPr pr).sOr t.fr).sRet (none, 0, 0) := ⟨_, rfl⟩
        rw [← hm20] at hM20 hS20
        have hO : OMc m m20 mk (v.accts.length : Int) (v.slots.length : Int) t.gas (t.gas - intrW t) HD pr t.fr := by rw [hm20]; exact omc _ _ _ _ _ _ _ _ _
        clear hm20
        clear hs12 hs13 hs14 hs15 hs16 hs17 hs18 hs19 hs20 hM12 hM13 hM14 hM15 hM16 hM17 hM18 hM19 hS12 hS13 hS14 hS15 hS16 hS17 hS18 hS19 hk12 hk13 hk14 hk15 hk16 hk17 hk18 hk19 hk11 hM11 hS11
        clear hb6
        have hcs20 : Ce c20 0 (.pointer (some ⟨C, 2435, none⟩)) := hM20.rep.s
        refine W_drawE [false, false, false, false, false, false, false, false, false, false] hmix (by kernel_rfl) rfl ?_
        refine WH_p (PS_move_ptr rfl) rfl ?_
        refine WH_p (PS_nilCheck rfl) rfl ?_
        refine WH_p (PS_fieldAddr 0 Hvad.runUnderlying69 rfl Hvad.sizeOf53 rfl rfl) rfl ?_
        refine WH_load (.pointer _) Hvad.isAgg53 rfl (Hb.h (by repeat (first | assumption | exact Hb.newY _ _ | refine Hb.alloc ?_ | refine Hb.drew ?_ | refine Hb.ext (by assumption) ?_ | exact Hb.setSameL (by first | omega | (simp only [size_alloc, size_setB, size_drew]; omega)) | exact Hb.setSame (by assumption) | refine Hb.set (by first | omega | (simp only [size_alloc, size_setB, size_drew]; omega)) ?_ ))) (Ce.h (by first | assumption | exact ⟨rfl⟩)) ?_
        refine WH_p (PS_fieldAddr 0 Hvad.runUnderlying35 rfl Hvad.sizeOf25 rfl rfl) rfl ?_
        refine WH_loadA _ Hvad.isAgg25 Hvad.sizeOf25 rfl (Hb.h (by repeat (first | assumption | exact Hb.newY _ _ | refine Hb.alloc ?_ | refine Hb.drew ?_ | refine Hb.ext (by assumption) ?_ | exact Hb.setSameL (by first | omega | (simp only [size_alloc, size_setB, size_drew]; omega)) | exact Hb.setSame (by assumption) | refine Hb.set (by first | omega | (simp only [size_alloc, size_setB, size_drew]; omega)) ?_ ))) (by first | omega | assumption | rfl | decide | exact Nat.le_refl _ | (simp only [size_ic, Value.cells]; omega) | simp) (Xt.h (by first | assumption | exact Xt.whole rfl rfl | exact Xt.whole rfl (by simp only [size_ic, Value.cells]; omega) | exact ⟨rfl⟩)) ?_
        refine WH_p (PS_fieldAddr 41 Hvad.runUnderlying35 rfl Hvad.sizeOf26 rfl rfl) rfl ?_
        refine WH_load (.int _ _) Hvad.isAgg26 rfl (Hb.h (by repeat (first | assumption | exact Hb.newY _ _ | refine Hb.alloc ?_ | refine Hb.drew ?_ | refine Hb.ext (by assumption) ?_ | exact Hb.setSameL (by first | omega | (simp only [size_alloc, size_setB, size_drew]; omega)) | exact Hb.setSame (by assumption) | refine Hb.set (by first | omega | (simp only [size_alloc, size_setB, size_drew]; omega)) ?_ ))) (Ce.h (by first | assumption | exact ⟨rfl⟩)) ?_
        refine WH_p (PS_add_u64n rfl rfl (by omega) (by omega)) rfl ?_
        refine WH_call Hvad.call33 (by rfl) (Ret.mono (putNonce_spec C c20 v B (bb m20) t.fr (t.nonce + 1) _ (VS.ext hM20.vs (by repeat (first | assumption | exact Ext.refl _ | refine Ext.alloc ?_ _ | refine Ext.drew ?_ | refine Ext.setB ?_ (by first | omega | (simp only [size_alloc, size_setB, size_drew]; omega)) _ | exact Ext.trans (by assumption) (by assumption) | refine Ext.trans ?_ (by assumption)))) htx.fr (by omega)) ?_)
        rintro u21 w21 ⟨hu21, hR21⟩
        refine ⟨(fun h => by cases h), ?_⟩
        subst hu21
        obtain ⟨c21, B21, hM21, hs21⟩ := (hM20.ext (Ext.drew (Ext.refl _))).vret hR21
        obtain ⟨_, a21, hA21⟩ := putNonce_go hF.vi (A := t.fr) (n := t.nonce + 1) (Or.inr (by omega)) (by rw [hF.jl]; decide)
        have ha21 := hA21.a1
        have hb21 := hA21.bals rfl
        generalize (v.putNonce t.fr (t.nonce + 1)).2 = y21 at *
        have hG21 : OpG y21 1 (v.accts.length + 1) v.slots.length (sumW v.sc.bals) := (hG0.setA hA21 hb21.2).mono (by omega) (by omega) (by omega)
        have hfrE21 := hA21.ent
        have hbal21 := hb21.1 t.fr
        replace hb3 := (hM20.ext (Ext.drew (Ext.refl _))).box hs21 (hb3.ext (Ext.drew (Ext.refl _))) (by decide) (by decide)
        replace hb11 := (hM20.ext (Ext.drew (Ext.refl _))).box hs21 (hb11.ext (Ext.drew (Ext.refl _))) (by decide) (by decide)
        have hS21 := hS20.trans (MStep.pre (Ext.drew (Ext.refl _)) hs21)
        have hk21 := hM21.vs.blk
        have hkz21 := hM21.sz
        have hcs21 : Ce c21 0 (.pointer (some ⟨C, 2435, none⟩)) := hM21.rep.s
        refine WH_nil ?_
        refine thn_normal ?_
        refine W_seq ?_
        have hchd : Ce c21 0 (.pointer (some ⟨C, 2435, none⟩)) := hM21.rep.s
        have hxhd : Xt c21 2409 (2409 + 4) (ic .u64 HD) := by have := hM21.rep.held; rw [hO.held] at this; exact this
        refine W_drawE [false, false, false, false, false, false, false, false, false, false, false, false, true, false, false, false, false, true, false] hmix (by kernel_rfl) rfl ?_
        refine WH_p (PS_move_ptr rfl) rfl ?_
        refine WH_p (PS_nilCheck rfl) rfl ?_
        refine WH_p (PS_fieldAddr 0 Hvad.runUnderlying69 rfl Hvad.sizeOf53 rfl rfl) rfl ?_
        refine WH_load (.pointer _) Hvad.isAgg53 rfl (Hb.h (by repeat (first | assumption | exact Hb.newY _ _ | refine Hb.alloc ?_ | refine Hb.drew ?_ | refine Hb.ext (by assumption) ?_ | exact Hb.setSameL (by first | omega | (simp only [size_alloc, size_setB, size_drew]; omega)) | exact Hb.setSame (by assumption) | refine Hb.set (by first | omega | (simp only [size_alloc, size_setB, size_drew]; omega)) ?_ ))) (Ce.h (by first | assumption | exact ⟨rfl⟩)) ?_
        refine WH_p (PS_fieldAddr 0 Hvad.runUnderlying35 rfl Hvad.sizeOf25 rfl rfl) rfl ?_
        refine WH_loadA _ Hvad.isAgg25 Hvad.sizeOf25 rfl (Hb.h (by repeat (first | assumption | exact Hb.newY _ _ | refine Hb.alloc ?_ | refine Hb.drew ?_ | refine Hb.ext (by assumption) ?_ | exact Hb.setSameL (by first | omega | (simp only [size_alloc, size_setB, size_drew]; omega)) | exact Hb.setSame (by assumption) | refine Hb.set (by first | omega | (simp only [size_alloc, size_setB, size_drew]; omega)) ?_ ))) (by first | omega | assumption | rfl | decide | exact Nat.le_refl _ | (simp only [size_ic, Value.cells]; omega) | simp) (Xt.h (by first | assumption | exact Xt.whole rfl rfl | exact Xt.whole rfl (by simp only [size_ic, Value.cells]; omega) | exact ⟨rfl⟩)) ?_
        refine WH_p (PS_move_ptr rfl) rfl ?_
        refine WH_p (PS_nilCheck rfl) rfl ?_
        refine WH_p (PS_fieldAddr 0 Hvad.runUnderlying69 rfl Hvad.sizeOf53 rfl rfl) rfl ?_
        refine WH_load (.pointer _) Hvad.isAgg53 rfl (Hb.h (by repeat (first | assumption | exact Hb.newY _ _ | refine Hb.alloc ?_ | refine Hb.drew ?_ | refine Hb.ext (by assumption) ?_ | exact Hb.setSameL (by first | omega | (simp only [size_alloc, size_setB, size_drew]; omega)) | exact Hb.setSame (by assumption) | refine Hb.set (by first | omega | (simp only [size_alloc, size_setB, size_drew]; omega)) ?_ ))) (Ce.h (by first | assumption | exact ⟨rfl⟩)) ?_
        refine WH_p (PS_fieldAddr 0 Hvad.runUnderlying35 rfl Hvad.sizeOf25 rfl rfl) rfl ?_
        refine WH_loadA _ Hvad.isAgg25 Hvad.sizeOf25 rfl (Hb.h (by repeat (first | assumption | exact Hb.newY _ _ | refine Hb.alloc ?_ | refine Hb.drew ?_ | refine Hb.ext (by assumption) ?_ | exact Hb.setSameL (by first | omega | (simp only [size_alloc, size_setB, size_drew]; omega)) | exact Hb.setSame (by assumption) | refine Hb.set (by first | omega | (simp only [size_alloc, size_setB, size_drew]; omega)) ?_ ))) (by first | omega | assumption | rfl | decide | exact Nat.le_refl _ | (simp only [size_ic, Value.cells]; omega) | simp) (Xt.h (by first | assumption | exact Xt.whole rfl rfl | exact Xt.whole rfl (by simp only [size_ic, Value.cells]; omega) | exact ⟨rfl⟩)) ?_
        refine WH_call Hvad.call36 (by rfl) (Ret.mono (balance_spec C c21 y21 B21 (bb m20) t.fr _ (VS.ext hM21.vs (by repeat (first | assumption | exact Ext.refl _ | refine Ext.alloc ?_ _ | refine Ext.drew ?_ | refine Ext.setB ?_ (by first | omega | (simp only [size_alloc, size_setB, size_drew]; omega)) _ | exact Ext.trans (by assumption) (by assumption) | refine Ext.trans ?_ (by assumption)))) htx.fr) ?_)
        rintro _ wb22 ⟨rfl, hEb22⟩
        refine ⟨fun _ => (by repeat (first | assumption | exact Ext.refl _ | refine Ext.alloc ?_ _ | refine Ext.drew ?_ | refine Ext.setB ?_ (by first | omega | (simp only [size_alloc, size_setB, size_drew]; omega)) _ | exact Ext.trans (by assumption) (by assumption) | refine Ext.trans ?_ (by assumption))), ?_⟩
        rw [hbal21]
        refine WH_p (PS_move_ptr rfl) rfl ?_
        refine WH_p (PS_nilCheck rfl) rfl ?_
        refine WH_p (PS_fieldAddr 2409 Hvad.runUnderlying69 rfl Hvad.sizeOf59 rfl rfl) rfl ?_
        refine WH_loadA _ Hvad.isAgg59 Hvad.sizeOf59 rfl (Hb.h (by repeat (first | assumption | exact Hb.newY _ _ | refine Hb.alloc ?_ | refine Hb.drew ?_ | refine Hb.ext (by assumption) ?_ | exact Hb.setSameL (by first | omega | (simp only [size_alloc, size_setB, size_drew]; omega)) | exact Hb.setSame (by assumption) | refine Hb.set (by first | omega | (simp only [size_alloc, size_setB, size_drew]; omega)) ?_ ))) (by first | omega | assumption | rfl | decide | exact Nat.le_refl _ | (simp only [size_ic, Value.cells]; omega) | simp) (Xt.h (by first | assumption | exact Xt.whole rfl rfl | exact Xt.whole rfl (by simp only [size_ic, Value.cells]; omega) | exact ⟨rfl⟩)) ?_
        refine WH_call Hvad.call35 (by rfl) (Ret.mono (sub_spec (v.bal t.fr) HD _ hwb hWH) ?_)
        rintro _ ws22 ⟨rfl, hEs22⟩
        refine ⟨fun _ => (by repeat (first | assumption | exact Ext.refl _ | refine Ext.alloc ?_ _ | refine Ext.drew ?_ | refine Ext.setB ?_ (by first | omega | (simp only [size_alloc, size_setB, size_drew]; omega)) _ | exact Ext.trans (by assumption) (by assumption) | refine Ext.trans ?_ (by assumption))), ?_⟩
        generalize hNB : ofV ((wv (v.bal t.fr) - wv HD) % 115792089237316195423570985008687907853269984665640564039457584007913129639936) = NB at *
        have hWN : Wd NB := by rw [← hNB]; exact ofV_wd _
        have hbh := wv_bd hWH
        have hvNB : wv NB = wv (v.bal t.fr) - wv HD := by rw [← hNB, wv_ofV (by omega) (by omega)]; omega
        refine WH_call Hvad.call34 (by rfl) (Ret.mono (putBal_spec C c21 y21 B21 (bb m20) t.fr NB _ (VS.ext hM21.vs (by repeat (first | assumption | exact Ext.refl _ | refine Ext.alloc ?_ _ | refine Ext.drew ?_ | refine Ext.setB ?_ (by first | omega | (simp only [size_alloc, size_setB, size_drew]; omega)) _ | exact Ext.trans (by assumption) (by assumption) | refine Ext.trans ?_ (by assumption)))) htx.fr hWN) ?_)
        rintro u22 w22 ⟨hu22, hR22⟩
        refine ⟨(fun h => by cases h), ?_⟩
        subst hu22
        have hE22 : Ext w21 ws22 := (by repeat (first | assumption | exact Ext.refl _ | refine Ext.alloc ?_ _ | refine Ext.drew ?_ | refine Ext.setB ?_ (by first | omega | (simp only [size_alloc, size_setB, size_drew]; omega)) _ | exact Ext.trans (by assumption) (by assumption) | refine Ext.trans ?_ (by assumption)))
        obtain ⟨c22, B22, hM22, hs22⟩ := (hM21.ext hE22).vret hR22
        obtain ⟨_, a22, hA22⟩ := putBal_go hG21.vi (A := t.fr) (b := NB) (Or.inl hfrE21) (by have := hG21.j; omega)
        have ha22 := hA22.a0 hfrE21
        have hsum22 := hA22.sum
        rw [hbal21, hG21.now.sum] at hsum22
        have hac22 : y21.putBal t.fr NB = y21.putBal t.fr NB := rfl
        have hbal22 : (y21.putBal t.fr NB).2.bal t.fr = NB := by rw [← ac_bal, hA22.here]
        generalize (y21.putBal t.fr NB).2 = y22 at *
        obtain ⟨SS, hSS⟩ : ∃ x, x = sumW v.sc.bals - wv HD := ⟨_, rfl⟩
        have hG22 : OpG y22 2 (v.accts.length + 1) v.slots.length SS := (hG21.setA hA22 (S' := SS) (by rw [hSS]; dsimp only at hsum22; omega)).mono (by omega) (by omega) (by omega)
        have hfrE22 := hA22.ent
        replace hb3 := (hM21.ext hE22).box hs22 (hb3.ext hE22) (by decide) (by decide)
        replace hb11 := (hM21.ext hE22).box hs22 (hb11.ext hE22) (by decide) (by decide)
        have hS22 := hS21.trans (MStep.pre hE22 hs22)
        have hk22 := hM22.vs.blk
        have hkz22 := hM22.sz
        have hcs22 : Ce c22 0 (.pointer (some ⟨C, 2435, none⟩)) := hM22.rep.s
        refine WH_nil ?_
        refine thn_normal ?_
        refine W_seq ?_
        refine W_drawE [false, false, false, false, false, false, false] hmix (by kernel_rfl) rfl ?_
        refine WH_p (PS_move_ptr rfl) rfl ?_
        refine WH_p (PS_nilCheck rfl) rfl ?_
        refine WH_p (PS_fieldAddr 0 Hvad.runUnderlying69 rfl Hvad.sizeOf53 rfl rfl) rfl ?_
        refine WH_load (.pointer _) Hvad.isAgg53 rfl (Hb.h (by repeat (first | assumption | exact Hb.newY _ _ | refine Hb.alloc ?_ | refine Hb.drew ?_ | refine Hb.ext (by assumption) ?_ | exact Hb.setSameL (by first | omega | (simp only [size_alloc, size_setB, size_drew]; omega)) | exact Hb.setSame (by assumption) | refine Hb.set (by first | omega | (simp only [size_alloc, size_setB, size_drew]; omega)) ?_ ))) (Ce.h (by first | assumption | exact ⟨rfl⟩)) ?_
        refine WH_p (PS_fieldAddr 0 Hvad.runUnderlying35 rfl Hvad.sizeOf25 rfl rfl) rfl ?_
        refine WH_loadA _ Hvad.isAgg25 Hvad.sizeOf25 rfl (Hb.h (by repeat (first | assumption | exact Hb.newY _ _ | refine Hb.alloc ?_ | refine Hb.drew ?_ | refine Hb.ext (by assumption) ?_ | exact Hb.setSameL (by first | omega | (simp only [size_alloc, size_setB, size_drew]; omega)) | exact Hb.setSame (by assumption) | refine Hb.set (by first | omega | (simp only [size_alloc, size_setB, size_drew]; omega)) ?_ ))) (by first | omega | assumption | rfl | decide | exact Nat.le_refl _ | (simp only [size_ic, Value.cells]; omega) | simp) (Xt.h (by first | assumption | exact Xt.whole rfl rfl | exact Xt.whole rfl (by simp only [size_ic, Value.cells]; omega) | exact ⟨rfl⟩)) ?_
        refine WH_call Hvad.call37 (by rfl) (Ret.mono (warm_spec C c22 y22 B22 (bb m20) t.fr _ (VS.ext hM22.vs (by repeat (first | assumption | exact Ext.refl _ | refine Ext.alloc ?_ _ | refine Ext.drew ?_ | refine Ext.setB ?_ (by first | omega | (simp only [size_alloc, size_setB, size_drew]; omega)) _ | exact Ext.trans (by assumption) (by assumption) | refine Ext.trans ?_ (by assumption)))) htx.fr) ?_)
        rintro u23 w23 hR23
        refine ⟨(fun h => by cases h), ?_⟩
        obtain ⟨c23, B23, hM23, hs23⟩ := (hM22.ext (Ext.drew (Ext.refl _))).vret hR23
        obtain ⟨a23, ha23, hz23, hG23q, hen23, hst23⟩ := hG22.warm (A := t.fr) (by omega) (Or.inl hfrE22)
        generalize (y22.warmT t.fr).2 = y23 at *
        have hG23 : OpG y23 3 (v.accts.length + 1) v.slots.length SS := by have := hz23 (hfrE22); exact hG23q.mono (by omega) (by omega) (by omega)
        have hfrE23 := hst23.en _ hfrE22
        have hbal23 := (hst23.bal t.fr).trans hbal22
        replace hb3 := (hM22.ext (Ext.drew (Ext.refl _))).box hs23 (hb3.ext (Ext.drew (Ext.refl _))) (by decide) (by decide)
        replace hb11 := (hM22.ext (Ext.drew (Ext.refl _))).box hs23 (hb11.ext (Ext.drew (Ext.refl _))) (by decide) (by decide)
        have hS23 := hS22.trans (MStep.pre (Ext.drew (Ext.refl _)) hs23)
        have hk23 := hM23.vs.blk
        have hkz23 := hM23.sz
        have hcs23 : Ce c23 0 (.pointer (some ⟨C, 2435, none⟩)) := hM23.rep.s
        refine WH_nil ?_
        refine thn_normal ?_
        refine W_seq ?_
        have hxcb : Xt c23 2260 (2260 + 20) (ic .u8 m.ecb) := by have := hM23.rep.ecb; rw [hO.ecb] at this; exact this
        have hlcb := hM.ty.ecb.1
        refine W_drawE [false, false, false, false, false, false, false, false, false, false] hmix (by kernel_rfl) rfl ?_
        refine WH_p (PS_move_ptr rfl) rfl ?_
        refine WH_p (PS_nilCheck rfl) rfl ?_
        refine WH_p (PS_fieldAddr 0 Hvad.runUnderlying69 rfl Hvad.sizeOf53 rfl rfl) rfl ?_
        refine WH_load (.pointer _) Hvad.isAgg53 rfl (Hb.h (by repeat (first | assumption | exact Hb.newY _ _ | refine Hb.alloc ?_ | refine Hb.drew ?_ | refine Hb.ext (by assumption) ?_ | exact Hb.setSameL (by first | omega | (simp only [size_alloc, size_setB, size_drew]; omega)) | exact Hb.setSame (by assumption) | refine Hb.set (by first | omega | (simp only [size_alloc, size_setB, size_drew]; omega)) ?_ ))) (Ce.h (by first | assumption | exact ⟨rfl⟩)) ?_
        refine WH_p (PS_move_ptr rfl) rfl ?_
        refine WH_p (PS_nilCheck rfl) rfl ?_
        refine WH_p (PS_fieldAddr 2260 Hvad.runUnderlying69 rfl Hvad.sizeOf31 rfl rfl) rfl ?_
        refine WH_p (PS_fieldAddr 0 Hvad.runUnderlying31 rfl Hvad.sizeOf25 rfl rfl) rfl ?_
        refine WH_loadA _ Hvad.isAgg25 Hvad.sizeOf25 rfl (Hb.h (by repeat (first | assumption | exact Hb.newY _ _ | refine Hb.alloc ?_ | refine Hb.drew ?_ | refine Hb.ext (by assumption) ?_ | exact Hb.setSameL (by first | omega | (simp only [size_alloc, size_setB, size_drew]; omega)) | exact Hb.setSame (by assumption) | refine Hb.set (by first | omega | (simp only [size_alloc, size_setB, size_drew]; omega)) ?_ ))) (by first | omega | assumption | rfl | decide | exact Nat.le_refl _ | (simp only [size_ic, Value.cells]; omega) | simp) (Xt.h (by first | assumption | exact Xt.whole rfl rfl | exact Xt.whole rfl (by simp only [size_ic, Value.cells]; omega) | exact ⟨rfl⟩)) ?_
        refine WH_call Hvad.call37 (by rfl) (Ret.mono (warm_spec C c23 y23 B23 (bb m20) m.ecb _ (VS.ext hM23.vs (by repeat (first | assumption | exact Ext.refl _ | refine Ext.alloc ?_ _ | refine Ext.drew ?_ | refine Ext.setB ?_ (by first | omega | (simp only [size_alloc, size_setB, size_drew]; omega)) _ | exact Ext.trans (by assumption) (by assumption) | refine Ext.trans ?_ (by assumption)))) hM.ty.ecb) ?_)
        rintro u24 w24 hR24
        refine ⟨(fun h => by cases h), ?_⟩
        obtain ⟨c24, B24, hM24, hs24⟩ := (hM23.ext (Ext.drew (Ext.refl _))).vret hR24
        obtain ⟨a24, ha24, hz24, hG24q, hen24, hst24⟩ := hG23.warm (A := m.ecb) (by omega) (Or.inr (by omega))
        generalize (y23.warmT m.ecb).2 = y24 at *
        have hG24 : OpG y24 4 (v.accts.length + 2) v.slots.length SS := hG24q.mono (by omega) (by omega) (by omega)
        have hfrE24 := hst24.en _ hfrE23
        have hbal24 := (hst24.bal t.fr).trans hbal23
        replace hb3 := (hM23.ext (Ext.drew (Ext.refl _))).box hs24 (hb3.ext (Ext.drew (Ext.refl _))) (by decide) (by decide)
        replace hb11 := (hM23.ext (Ext.drew (Ext.refl _))).box hs24 (hb11.ext (Ext.drew (Ext.refl _))) (by decide) (by decide)
        have hS24 := hS23.trans (MStep.pre (Ext.drew (Ext.refl _)) hs24)
        have hk24 := hM24.vs.blk
        have hkz24 := hM24.sz
        have hcs24 : Ce c24 0 (.pointer (some ⟨C, 2435, none⟩)) := hM24.rep.s
        refine WH_nil ?_
        refine thn_normal ?_
        refine W_seq ?_
        refine W_drawE [false, false, false, false, false, false] hmix (by kernel_rfl) rfl ?_
        refine WH_p (PS_move_ptr rfl) rfl ?_
        refine WH_p (PS_nilCheck rfl) rfl ?_
        refine WH_p (PS_fieldAddr 0 Hvad.runUnderlying69 rfl Hvad.sizeOf53 rfl rfl) rfl ?_
        refine WH_load (.pointer _) Hvad.isAgg53 rfl (Hb.h (by repeat (first | assumption | exact Hb.newY _ _ | refine Hb.alloc ?_ | refine Hb.drew ?_ | refine Hb.ext (by assumption) ?_ | exact Hb.setSameL (by first | omega | (simp only [size_alloc, size_setB, size_drew]; omega)) | exact Hb.setSame (by assumption) | refine Hb.set (by first | omega | (simp only [size_alloc, size_setB, size_drew]; omega)) ?_ ))) (Ce.h (by first | assumption | exact ⟨rfl⟩)) ?_
        refine WH_loadA _ Hvad.isAgg25 Hvad.sizeOf25 rfl (Hb.h (by repeat (first | assumption | exact Hb.newY _ _ | refine Hb.alloc ?_ | refine Hb.drew ?_ | refine Hb.ext (by assumption) ?_ | exact Hb.setSameL (by first | omega | (simp only [size_alloc, size_setB, size_drew]; omega)) | exact Hb.setSame (by assumption) | refine Hb.set (by first | omega | (simp only [size_alloc, size_setB, size_drew]; omega)) ?_ ))) (by first | omega | assumption | rfl | decide | exact Nat.le_refl _ | (simp only [size_ic, Value.cells]; omega) | simp) (Xt.h (by first | assumption | exact Xt.whole rfl rfl | exact Xt.whole rfl (by simp only [size_ic, Value.cells]; omega) | exact ⟨rfl⟩)) ?_
        refine WH_call Hvad.call37 (by rfl) (Ret.mono (warm_spec C c24 y24 B24 (bb m20) tg _ (VS.ext hM24.vs (by repeat (first | assumption | exact Ext.refl _ | refine Ext.alloc ?_ _ | refine Ext.drew ?_ | refine Ext.setB ?_ (by first | omega | (simp only [size_alloc, size_setB, size_drew]; omega)) _ | exact Ext.trans (by assumption) (by assumption) | refine Ext.trans ?_ (by assumption)))) htg) ?_)
        rintro u25 w25 hR25
        refine ⟨(fun h => by cases h), ?_⟩
        obtain ⟨c25, B25, hM25, hs25⟩ := (hM24.ext (Ext.drew (Ext.refl _))).vret hR25
        obtain ⟨a25, ha25, hz25, hG25q, hen25, hst25⟩ := hG24.warm (A := tg) (by omega) (Or.inr (by omega))
        generalize (y24.warmT tg).2 = y25 at *
        have hG25 : OpG y25 5 (v.accts.length + 3) v.slots.length SS := hG25q.mono (by omega) (by omega) (by omega)
        have hfrE25 := hst25.en _ hfrE24
        have hbal25 := (hst25.bal t.fr).trans hbal24
        have hcb25 := hst25.en _ hen24
        replace hb3 := (hM24.ext (Ext.drew (Ext.refl _))).box hs25 (hb3.ext (Ext.drew (Ext.refl _))) (by decide) (by decide)
        replace hb11 := (hM24.ext (Ext.drew (Ext.refl _))).box hs25 (hb11.ext (Ext.drew (Ext.refl _))) (by decide) (by decide)
        have hS25 := hS24.trans (MStep.pre (Ext.drew (Ext.refl _)) hs25)
        have hk25 := hM25.vs.blk
        have hkz25 := hM25.sz
        have hcs25 : Ce c25 0 (.pointer (some ⟨C, 2435, none⟩)) := hM25.rep.s
        refine WH_nil ?_
        refine thn_normal ?_
        refine W_seq ?_
        refine W_region rfl ?_
        refine WO_p (PS_move_ptr rfl) ?_
        refine WO_p (PS_nilCheck rfl) ?_
        refine WO_p (PS_fieldAddr 0 Hvad.runUnderlying69 rfl Hvad.sizeOf53 rfl rfl) ?_
        refine WO_load (.pointer _) Hvad.isAgg53 rfl (Hb.h (by repeat (first | assumption | exact Hb.newY _ _ | refine Hb.alloc ?_ | refine Hb.drew ?_ | refine Hb.ext (by assumption) ?_ | exact Hb.setSameL (by first | omega | (simp only [size_alloc, size_setB, size_drew]; omega)) | exact Hb.setSame (by assumption) | refine Hb.set (by first | omega | (simp only [size_alloc, size_setB, size_drew]; omega)) ?_ ))) (Ce.h (by first | assumption | exact ⟨rfl⟩)) ?_
        refine WO_p (PS_buildI (k := .u8) (zs := [0, 0, 0, 0, 0, 0, 0, 0, 0, 0, 0, 0, 0, 0, 0, 0, 0, 0, 0, 0]) (ps := [(19, _)]) (L := [0, 0, 0, 0, 0, 0, 0, 0, 0, 0, 0, 0, 0, 0, 0, 0, 0, 0, 0, _]) Hvad.zeroValue25 Hvad.runUnderlying25 Hvad.sizeOf5 rfl rfl rfl rfl) ?_
        refine WO_call Hvad.call37 (by rfl) (Ret.mono (warm_spec C c25 y25 B25 (bb m20) _ _ hM25.vs by4) ?_)
        rintro u26 w26 hR26
        obtain ⟨c26, B26, hM26, hs26⟩ := (hM25.ext (Ext.refl _)).vret hR26
        obtain ⟨a26, ha26, hz26, hG26q, hen26, hst26⟩ := hG25.warm (A := [0, 0, 0, 0, 0, 0, 0, 0, 0, 0, 0, 0, 0, 0, 0, 0, 0, 0, 0, 4]) (by omega) (Or.inr (by omega))
        generalize (y25.warmT [0, 0, 0, 0, 0, 0, 0, 0, 0, 0, 0, 0, 0, 0, 0, 0, 0, 0, 0, 4]).2 = y26 at *
        have hG26 : OpG y26 6 (v.accts.length + 4) v.slots.length SS := hG26q.mono (by omega) (by omega) (by omega)
        have hfrE26 := hst26.en _ hfrE25
        have hbal26 := (hst26.bal t.fr).trans hbal25
        have hcb26 := hst26.en _ hcb25
        have htg26 := hst26.en _ hen25
        replace hb3 := (hM25.ext (Ext.refl _)).box hs26 (hb3.ext (Ext.refl _)) (by decide) (by decide)
        replace hb11 := (hM25.ext (Ext.refl _)).box hs26 (hb11.ext (Ext.refl _)) (by decide) (by decide)
        have hS26 := hS25.trans (MStep.pre (Ext.refl _) hs26)
        have hk26 := hM26.vs.blk
        have hkz26 := hM26.sz
        have hcs26 : Ce c26 0 (.pointer (some ⟨C, 2435, none⟩)) := hM26.rep.s
        refine WO_nil ?_
        refine thn_normal ?_
        refine W_seq ?_
        refine W_region rfl ?_
        refine WO_p (PS_move_ptr rfl) ?_
        refine WO_p (PS_nilCheck rfl) ?_
        refine WO_p (PS_fieldAddr 0 Hvad.runUnderlying69 rfl Hvad.sizeOf53 rfl rfl) ?_
        refine WO_load (.pointer _) Hvad.isAgg53 rfl (Hb.h (by repeat (first | assumption | exact Hb.newY _ _ | refine Hb.alloc ?_ | refine Hb.drew ?_ | refine Hb.ext (by assumption) ?_ | exact Hb.setSameL (by first | omega | (simp only [size_alloc, size_setB, size_drew]; omega)) | exact Hb.setSame (by assumption) | refine Hb.set (by first | omega | (simp only [size_alloc, size_setB, size_drew]; omega)) ?_ ))) (Ce.h (by first | assumption | exact ⟨rfl⟩)) ?_
        refine WO_p (PS_buildI (k := .u8) (zs := [0, 0, 0, 0, 0, 0, 0, 0, 0, 0, 0, 0, 0, 0, 0, 0, 0, 0, 0, 0]) (ps := [(19, _)]) (L := [0, 0, 0, 0, 0, 0, 0, 0, 0, 0, 0, 0, 0, 0, 0, 0, 0, 0, 0, _]) Hvad.zeroValue25 Hvad.runUnderlying25 Hvad.sizeOf5 rfl rfl rfl rfl) ?_
        refine WO_call Hvad.call37 (by rfl) (Ret.mono (warm_spec C c26 y26 B26 (bb m20) _ _ hM26.vs by5) ?_)
        rintro u27 w27 hR27
        obtain ⟨c27, B27, hM27, hs27⟩ := (hM26.ext (Ext.refl _)).vret hR27
        obtain ⟨a27, ha27, hz27, hG27q, hen27, hst27⟩ := hG26.warm (A := [0, 0, 0, 0, 0, 0, 0, 0, 0, 0, 0, 0, 0, 0, 0, 0, 0, 0, 0, 5]) (by omega) (Or.inr (by omega))
        generalize (y26.warmT [0, 0, 0, 0, 0, 0, 0, 0, 0, 0, 0, 0, 0, 0, 0, 0, 0, 0, 0, 5]).2 = y27 at *
        have hG27 : OpG y27 7 (v.accts.length + 5) v.slots.length SS := hG27q.mono (by omega) (by omega) (by omega)
        have hfrE27 := hst27.en _ hfrE26
        have hbal27 := (hst27.bal t.fr).trans hbal26
        have hcb27 := hst27.en _ hcb26
        have htg27 := hst27.en _ htg26
        replace hb3 := (hM26.ext (Ext.refl _)).box hs27 (hb3.ext (Ext.refl _)) (by decide) (by decide)
        replace hb11 := (hM26.ext (Ext.refl _)).box hs27 (hb11.ext (Ext.refl _)) (by decide) (by decide)
        have hS27 := hS26.trans (MStep.pre (Ext.refl _) hs27)
        have hk27 := hM27.vs.blk
        have hkz27 := hM27.sz
        have hcs27 : Ce c27 0 (.pointer (some ⟨C, 2435, none⟩)) := hM27.rep.s
        refine WO_nil ?_
        refine thn_normal ?_
        refine W_seq ?_
        have hEx27 : Ext w0 w27.drew := Ext.trans (Ext.keepC he hS27.keep hlow) (Ext.drew (Ext.refl _))
        have hlow27 : ∀ b, VOwn C B27 b → w0.heap.size ≤ b := fun b hb => by
          rcases hS27.own b (Or.inl hb) with h | h
          · exact hlow b h
          · exact Nat.le_trans he.1 h
        refine W_drawE [false, false, false, false, false, false, false] hmix (by kernel_rfl) rfl ?_
        refine WH_p (PS_move_ptr rfl) rfl ?_
        refine WH_p (PS_nilCheck rfl) rfl ?_
        refine WH_p (PS_fieldAddr 0 Hvad.runUnderlying69 rfl Hvad.sizeOf53 rfl rfl) rfl ?_
        refine WH_load (.pointer _) Hvad.isAgg53 rfl (Hb.h (by repeat (first | assumption | exact Hb.newY _ _ | refine Hb.alloc ?_ | refine Hb.drew ?_ | refine Hb.ext (by assumption) ?_ | exact Hb.setSameL (by first | omega | (simp only [size_alloc, size_setB, size_drew]; omega)) | exact Hb.setSame (by assumption) | refine Hb.set (by first | omega | (simp only [size_alloc, size_setB, size_drew]; omega)) ?_ ))) (Ce.h (by first | assumption | exact ⟨rfl⟩)) ?_
        refine WH_p (PS_fieldAddr 173 Hvad.runUnderlying35 rfl Hvad.sizeOf33 rfl rfl) rfl ?_
        refine WH_load (.slice _ _ _) Hvad.isAgg33 rfl (Hb.h (by repeat (first | assumption | exact Hb.newY _ _ | refine Hb.alloc ?_ | refine Hb.drew ?_ | refine Hb.ext (by assumption) ?_ | exact Hb.setSameL (by first | omega | (simp only [size_alloc, size_setB, size_drew]; omega)) | exact Hb.setSame (by assumption) | refine Hb.set (by first | omega | (simp only [size_alloc, size_setB, size_drew]; omega)) ?_ ))) (Ce.h (by first | assumption | exact ⟨rfl⟩)) ?_
        refine WH_call Hvad.call38 (by rfl) (Ret.mono (warmList_spec w0 C c27 y27 B27 (bb m20) t.acc t.al 7 (v.accts.length + 5) v.slots.length SS _ hEx27 htx.acY htx.ar (VS.ext hM27.vs (by repeat (first | assumption | exact Ext.refl _ | refine Ext.alloc ?_ _ | refine Ext.drew ?_ | refine Ext.setB ?_ (by first | omega | (simp only [size_alloc, size_setB, size_drew]; omega)) _ | exact Ext.trans (by assumption) (by assumption) | refine Ext.trans ?_ (by assumption)))) hlow27 hG27 (by omega) (by omega) (by omega) (by omega) (fun i hi => ksum_mono _ _ _ hi)) ?_)
        rintro u28 w28 ⟨y28, hR28, hG28, hst28⟩
        refine ⟨(fun h => by cases h), ?_⟩
        obtain ⟨c28, B28, hM28, hs28⟩ := (hM27.ext (Ext.drew (Ext.refl _))).vret hR28
        have hfrE28 := hst28.en _ hfrE27
        have hcb28 := hst28.en _ hcb27
        have htg28 := hst28.en _ htg27
        have hbal28 := (hst28.bal t.fr).trans hbal27
        replace hb3 := (hM27.ext (Ext.drew (Ext.refl _))).box hs28 (hb3.ext (Ext.drew (Ext.refl _))) (by decide) (by decide)
        replace hb11 := (hM27.ext (Ext.drew (Ext.refl _))).box hs28 (hb11.ext (Ext.drew (Ext.refl _))) (by decide) (by decide)
        have hS28 := hS27.trans (MStep.pre (Ext.drew (Ext.refl _)) hs28)
        have hk28 := hM28.vs.blk
        have hkz28 := hM28.sz
        have hcs28 : Ce c28 0 (.pointer (some ⟨C, 2435, none⟩)) := hM28.rep.s
        have hctx28 : Ce c28 2408 (.int .u64 (t.gas - intrW t)) := by have := hM28.rep.txgas; rw [hO.txgas] at this; exact this
        have hEw28 : Ext w0 w28 := Ext.keepC he hS28.keep hlow
        have hbbn : bb m20 = none := by unfold bb; rw [hO.buf, hId.bf]
        have hWvl := hWv.1
        have hTI : TI y28 m20 SS := ⟨hG28.vi, hO.applied, by rw [hO.origin]; exact hfrE28, by rw [hO.ecb]; exact hcb28, by rw [hO.ret]; exact ⟨by show 0 ≤ 717280; decide, Nat.le_refl _⟩, by rw [hO.limit]; omega, by rw [hO.txgas, hO.limit]; omega, by rw [hO.held, hO.limit, hO.price]; exact hvHD, by rw [hO.bfee, hO.price]; exact hV.b, by rw [hO.a0]; omega, by rw [hO.s0]; omega, by rw [hO.base]; exact hId.b0, by rw [hO.buf, hId.bf]; decide, by rw [hO.ehash]; exact hId.eh, by rw [hO.held]; omega⟩
        have hst20 : m20.status = 0 := by rw [hO.status]; exact hId.st
        have htop20 : m20.top = -1 := by rw [hO.top]; exact hId.tp
        have hmt20 : m20.mtop = 0 := by rw [hO.mtop]; exact hId.mtY
        have ha020 := hO.a0
        have hs020 := hO.s0
        have htx20 := hO.txgas
        have hf720 := hM28.ty.frames.1
        have hb820 := hM28.ty.base.1
        have hpay : wv (fromB t.value) ≤ wv NB := by omega
        have hz28 := hEw28.1
        have hl328 := hb3.lt
        have hl1128 := hb11.lt
        clear hR28 hs28 hM27 hs27 hR27 hS27 hk27 hst27 hst28 hG27 hen27 hen26 hk26 hk25 hk24 hk23 hk22 hk21
        clear hxcb hxhd hchd
        refine WH_nil ?_
        refine thn_normal ?_
        refine W_seqJ (fun ρ w' => ∃ (b12 : Nat), Ext w28 w' ∧ w28.heap.size ≤ b12 ∧ Hb w' b12 (.cells (encF (kF 0 (t.gas - intrW t) false tg t.fr (fromB t.value) (none, 0, 0))).toArray 65 (0, 0)) ∧ Fr [(0, .pointer (some ⟨C, 0, none⟩)), (3, .pointer (some ⟨b3, 0, none⟩)), (10, .int .i32 v.nmarks), (11, .pointer (some ⟨b11, 0, none⟩)), (12, .pointer (some ⟨b12, 0, none⟩))] ρ) ?_ ?_
        · skip
          refine W_drawF [false, false, false, false, false, false, false, false, false, true, false, true, false] [11] [0, 1, 2, 3, 4, 5, 6, 7, 8, 9, 10, 12] hmix (by kernel_rfl) rfl rfl rfl ?_
          refine F_q (i := 0) rfl (by kernel_rfl) ?_
          refine WH_p (PS_move_ptr rfl) rfl ?_
          refine WH_nil ?_
          refine F_q (i := 1) rfl (by kernel_rfl) ?_
          refine WH_p (PS_nilCheck rfl) rfl ?_
          refine WH_nil ?_
          refine F_q (i := 2) rfl (by kernel_rfl) ?_
          refine WH_p (PS_fieldAddr 2408 Hvad.runUnderlying69 rfl Hvad.sizeOf26 rfl rfl) rfl ?_
          refine WH_nil ?_
          refine F_q (i := 3) rfl (by kernel_rfl) ?_
          refine WH_load (.int _ _) Hvad.isAgg26 rfl (Hb.h (by repeat (first | assumption | exact Hb.newY _ _ | refine Hb.alloc ?_ | refine Hb.drew ?_ | refine Hb.ext (by assumption) ?_ | exact Hb.setSameL (by first | omega | (simp only [size_alloc, size_setB, size_drew]; omega)) | exact Hb.setSame (by assumption) | refine Hb.set (by first | omega | (simp only [size_alloc, size_setB, size_drew]; omega)) ?_ ))) (Ce.h (by first | assumption | exact ⟨rfl⟩)) ?_
          refine WH_nil ?_
          refine F_q (i := 4) rfl (by kernel_rfl) ?_
          refine WH_loadA _ Hvad.isAgg25 Hvad.sizeOf25 rfl (Hb.h (by repeat (first | assumption | exact Hb.newY _ _ | refine Hb.alloc ?_ | refine Hb.drew ?_ | refine Hb.ext (by assumption) ?_ | exact Hb.setSameL (by first | omega | (simp only [size_alloc, size_setB, size_drew]; omega)) | exact Hb.setSame (by assumption) | refine Hb.set (by first | omega | (simp only [size_alloc, size_setB, size_drew]; omega)) ?_ ))) (by first | omega | assumption | rfl | decide | exact Nat.le_refl _ | (simp only [size_ic, Value.cells]; omega) | simp) (Xt.h (by first | assumption | exact Xt.whole rfl rfl | exact Xt.whole rfl (by simp only [size_ic, Value.cells]; omega) | exact ⟨rfl⟩)) ?_
          refine WH_nil ?_
          refine F_q (i := 5) rfl (by kernel_rfl) ?_
          refine WH_p (PS_fieldAddr 0 Hvad.runUnderlying35 rfl Hvad.sizeOf25 rfl rfl) rfl ?_
          refine WH_nil ?_
          refine F_q (i := 6) rfl (by kernel_rfl) ?_
          refine WH_loadA _ Hvad.isAgg25 Hvad.sizeOf25 rfl (Hb.h (by repeat (first | assumption | exact Hb.newY _ _ | refine Hb.alloc ?_ | refine Hb.drew ?_ | refine Hb.ext (by assumption) ?_ | exact Hb.setSameL (by first | omega | (simp only [size_alloc, size_setB, size_drew]; omega)) | exact Hb.setSame (by assumption) | refine Hb.set (by first | omega | (simp only [size_alloc, size_setB, size_drew]; omega)) ?_ ))) (by first | omega | assumption | rfl | decide | exact Nat.le_refl _ | (simp only [size_ic, Value.cells]; omega) | simp) (Xt.h (by first | assumption | exact Xt.whole rfl rfl | exact Xt.whole rfl (by simp only [size_ic, Value.cells]; omega) | exact ⟨rfl⟩)) ?_
          refine WH_nil ?_
          refine F_q (i := 7) rfl (by kernel_rfl) ?_
          refine WH_p (PS_fieldAddr 75 Hvad.runUnderlying35 rfl Hvad.sizeOf28 rfl rfl) rfl ?_
          refine WH_nil ?_
          refine F_q (i := 8) rfl (by kernel_rfl) ?_
          refine WH_loadA _ Hvad.isAgg28 Hvad.sizeOf28 rfl (Hb.h (by repeat (first | assumption | exact Hb.newY _ _ | refine Hb.alloc ?_ | refine Hb.drew ?_ | refine Hb.ext (by assumption) ?_ | exact Hb.setSameL (by first | omega | (simp only [size_alloc, size_setB, size_drew]; omega)) | exact Hb.setSame (by assumption) | refine Hb.set (by first | omega | (simp only [size_alloc, size_setB, size_drew]; omega)) ?_ ))) (by first | omega | assumption | rfl | decide | exact Nat.le_refl _ | (simp only [size_ic, Value.cells]; omega) | simp) (Xt.h (by first | assumption | exact Xt.whole rfl rfl | exact Xt.whole rfl (by simp only [size_ic, Value.cells]; omega) | exact ⟨rfl⟩)) ?_
          refine WH_nil ?_
          refine F_fork1 (i := 9) rfl rfl ?_ ?_
          · refine WH_call Hvad.call39 (by rfl) (Ret.mono (fromBytes_spec t.value _ htx.va) ?_)
            rintro _ w29c ⟨rfl, hE29c⟩
            refine ⟨fun _ => (by repeat (first | assumption | exact Ext.refl _ | refine Ext.alloc ?_ _ | refine Ext.drew ?_ | refine Ext.setB ?_ (by first | omega | (simp only [size_alloc, size_setB, size_drew]; omega)) _ | exact Ext.trans (by assumption) (by assumption) | refine Ext.trans ?_ (by assumption))), ?_⟩
            have hz29c := hE29c.1
            try simp only [size_alloc, size_setB, size_drew] at hz29c
            refine WH_nil ?_
            refine F_q (i := 10) rfl (by kernel_rfl) ?_
            refine WH_p (PS_b65_0_7_9_10_11 rfl rfl rfl htgl rfl hlf rfl hWvl) rfl ?_
            refine WH_nil ?_
            refine F_fork1B (i := 12) (by kernel_rfl) rfl ?_
            · refine WH_allocG Hvad.zeroValue65 ?_
              intro b12 v12 hg12 hE12 hH12 hl12
              try simp only [size_alloc, size_setB, size_drew] at hg12
              have hzz12 := hE12.1
              try simp only [size_alloc, size_setB, size_drew] at hzz12
              refine ⟨fun _ => (by repeat (first | assumption | exact Ext.refl _ | refine Ext.alloc ?_ _ | refine Ext.drew ?_ | refine Ext.setB ?_ (by first | omega | (simp only [size_alloc, size_setB, size_drew]; omega)) _ | exact Ext.trans (by assumption) (by assumption) | refine Ext.trans ?_ (by assumption))), ?_⟩
              refine WH_nil ?_
              refine F_q (i := 12) rfl (by kernel_rfl) ?_
              refine WH_storeW Hvad.sizeOf65 rfl (v := .agg (encF (kF 0 (t.gas - intrW t) false tg t.fr (fromB t.value) (none, 0, 0))).toArray) rfl (Hb.h (by repeat (first | assumption | exact Hb.newY _ _ | refine Hb.alloc ?_ | refine Hb.drew ?_ | refine Hb.ext (by assumption) ?_ | exact Hb.setSameL (by first | omega | (simp only [size_alloc, size_setB, size_drew]; omega)) | exact Hb.setSame (by assumption) | refine Hb.set (by first | omega | (simp only [size_alloc, size_setB, size_drew]; omega)) ?_ ))) rfl (by show (encF (kF 0 (t.gas - intrW t) false tg t.fr (fromB t.value) (none, 0, 0))).toArray.size = 65; simpa using encF_len (kF_ty (k := 0) (g := t.gas - intrW t) (s := false) (cd := (none, 0, 0)) (by decide) (by omega) htg htx.fr hWv)) (by rfl) one_encF (fun h => by cases h) ?_
              refine WH_nil ?_
              refine F_end ?_
              refine thn_normal ?_
              exact ⟨b12, (by repeat (first | assumption | exact Ext.refl _ | refine Ext.alloc ?_ _ | refine Ext.drew ?_ | refine Ext.setB ?_ (by first | omega | (simp only [size_alloc, size_setB, size_drew]; omega)) _ | exact Ext.trans (by assumption) (by assumption) | refine Ext.trans ?_ (by assumption))), (by omega), Hb.mk (Hb.h (by repeat (first | assumption | exact Hb.newY _ _ | refine Hb.alloc ?_ | refine Hb.drew ?_ | refine Hb.ext (by assumption) ?_ | exact Hb.setSameL (by first | omega | (simp only [size_alloc, size_setB, size_drew]; omega)) | exact Hb.setSame (by assumption) | refine Hb.set (by first | omega | (simp only [size_alloc, size_setB, size_drew]; omega)) ?_ ))), ⟨rfl, rfl, rfl, rfl, rfl, trivial⟩⟩
          · refine WH_allocG Hvad.zeroValue65 ?_
            intro b12 v12 hg12 hE12 hH12 hl12
            try simp only [size_alloc, size_setB, size_drew] at hg12
            have hzz12 := hE12.1
            try simp only [size_alloc, size_setB, size_drew] at hzz12
            refine ⟨fun _ => (by repeat (first | assumption | exact Ext.refl _ | refine Ext.alloc ?_ _ | refine Ext.drew ?_ | refine Ext.setB ?_ (by first | omega | (simp only [size_alloc, size_setB, size_drew]; omega)) _ | exact Ext.trans (by assumption) (by assumption) | refine Ext.trans ?_ (by assumption))), ?_⟩
            refine WH_nil ?_
            refine F_q (i := 9) rfl (by kernel_rfl) ?_
            refine WH_call Hvad.call39 (by rfl) (Ret.mono (fromBytes_spec t.value _ htx.va) ?_)
            rintro _ w29c ⟨rfl, hE29c⟩
            refine ⟨fun _ => (by repeat (first | assumption | exact Ext.refl _ | refine Ext.alloc ?_ _ | refine Ext.drew ?_ | refine Ext.setB ?_ (by first | omega | (simp only [size_alloc, size_setB, size_drew]; omega)) _ | exact Ext.trans (by assumption) (by assumption) | refine Ext.trans ?_ (by assumption))), ?_⟩
            have hz29c := hE29c.1
            try simp only [size_alloc, size_setB, size_drew] at hz29c
            refine WH_nil ?_
            refine F_q (i := 10) rfl (by kernel_rfl) ?_
            refine WH_p (PS_b65_0_7_9_10_11 rfl rfl rfl htgl rfl hlf rfl hWvl) rfl ?_
            refine WH_nil ?_
            refine F_q (i := 12) rfl (by kernel_rfl) ?_
            refine WH_storeW Hvad.sizeOf65 rfl (v := .agg (encF (kF 0 (t.gas - intrW t) false tg t.fr (fromB t.value) (none, 0, 0))).toArray) rfl (Hb.h (by repeat (first | assumption | exact Hb.newY _ _ | refine Hb.alloc ?_ | refine Hb.drew ?_ | refine Hb.ext (by assumption) ?_ | exact Hb.setSameL (by first | omega | (simp only [size_alloc, size_setB, size_drew]; omega)) | exact Hb.setSame (by assumption) | refine Hb.set (by first | omega | (simp only [size_alloc, size_setB, size_drew]; omega)) ?_ ))) rfl (by show (encF (kF 0 (t.gas - intrW t) false tg t.fr (fromB t.value) (none, 0, 0))).toArray.size = 65; simpa using encF_len (kF_ty (k := 0) (g := t.gas - intrW t) (s := false) (cd := (none, 0, 0)) (by decide) (by omega) htg htx.fr hWv)) (by rfl) one_encF (fun h => by cases h) ?_
            refine WH_nil ?_
            refine F_end ?_
            refine thn_normal ?_
            exact ⟨b12, (by repeat (first | assumption | exact Ext.refl _ | refine Ext.alloc ?_ _ | refine Ext.drew ?_ | refine Ext.setB ?_ (by first | omega | (simp only [size_alloc, size_setB, size_drew]; omega)) _ | exact Ext.trans (by assumption) (by assumption) | refine Ext.trans ?_ (by assumption))), (by omega), Hb.mk (Hb.h (by repeat (first | assumption | exact Hb.newY _ _ | refine Hb.alloc ?_ | refine Hb.drew ?_ | refine Hb.ext (by assumption) ?_ | exact Hb.setSameL (by first | omega | (simp only [size_alloc, size_setB, size_drew]; omega)) | exact Hb.setSame (by assumption) | refine Hb.set (by first | omega | (simp only [size_alloc, size_setB, size_drew]; omega)) ?_ ))), ⟨rfl, rfl, rfl, rfl, rfl, trivial⟩⟩
        · intro ρ29 w29 hJ29
          obtain ⟨b12, hE29, hg12, hb12, hFr29⟩ := hJ29
          refine W_env _ hFr29 ?_
          have hz29 := hE29.1
          have hk29 := hk28.ext hE29
          have hb39 := hb3.ext hE29
          have hb119 := hb11.ext hE29
          have hl3 := hb39.lt
          have hl11 := hb119.lt
          have hl12 := hb12.lt
          have hKty : FmTy (kF 0 (t.gas - intrW t) false tg t.fr (fromB t.value) (none, 0, 0)) := kF_ty (by decide) (by omega) htg htx.fr hWv
          have hKb := (openFB hKty).bd
          refine W_seq ?_
          refine W_seq ?_
          refine W_region rfl ?_
          refine WO_p (PS_fieldAddr 40 Hvad.runUnderlying35 rfl Hvad.sizeOf4 rfl rfl) ?_
          refine WO_load (.bool _) Hvad.isAgg4 rfl (Hb.h (by repeat (first | assumption | exact Hb.newY _ _ | refine Hb.alloc ?_ | refine Hb.drew ?_ | refine Hb.ext (by assumption) ?_ | exact Hb.setSameL (by first | omega | (simp only [size_alloc, size_setB, size_drew]; omega)) | exact Hb.setSame (by assumption) | refine Hb.set (by first | omega | (simp only [size_alloc, size_setB, size_drew]; omega)) ?_ ))) (Ce.h (by first | assumption | exact ⟨rfl⟩)) ?_
          refine WO_p (PS_not rfl) ?_
          refine WO_nil ?_
          refine thn_normal ?_
          refine W_if rfl (fun hb28 => ?_) (fun hb28 => ?_)
          · have hb28p := hb28.h; try simp only [al_ete, al_dfn, Bool.not_eq_true', Bool.not_eq_false', al_ne, Bool.not_not, al_nn] at hb28p
            have hcr2 : t.create = false := by simpa using hb28p
            refine W_seq ?_
            refine W_region rfl ?_
            refine WO_loadA _ Hvad.isAgg25 Hvad.sizeOf25 rfl (Hb.h (by repeat (first | assumption | exact Hb.newY _ _ | refine Hb.alloc ?_ | refine Hb.drew ?_ | refine Hb.ext (by assumption) ?_ | exact Hb.setSameL (by first | omega | (simp only [size_alloc, size_setB, size_drew]; omega)) | exact Hb.setSame (by assumption) | refine Hb.set (by first | omega | (simp only [size_alloc, size_setB, size_drew]; omega)) ?_ ))) (by first | omega | assumption | rfl | decide | exact Nat.le_refl _ | (simp only [size_ic, Value.cells]; omega) | simp) (Xt.h (by first | assumption | exact Xt.whole rfl rfl | exact Xt.whole rfl (by simp only [size_ic, Value.cells]; omega) | exact ⟨rfl⟩)) ?_
            refine WO_call Hvad.call40 (by rfl) (Ret.mono (ntvAt_spec tg _ htg) ?_)
            rintro _ w31 ⟨hE31, rfl⟩
            have hz31 := hE31.1
            have hnat := nat_bd tg
            refine WO_p (PS_fieldAddr 2 Hvad.runUnderlying65 rfl Hvad.sizeOf5 rfl rfl) ?_
            refine WO_store1 Hvad.sizeOf5 rfl (v := .int _ _) rfl (Hb.h (by repeat (first | assumption | exact Hb.newY _ _ | refine Hb.alloc ?_ | refine Hb.drew ?_ | refine Hb.ext (by assumption) ?_ | exact Hb.setSameL (by first | omega | (simp only [size_alloc, size_setB, size_drew]; omega)) | exact Hb.setSame (by assumption) | refine Hb.set (by first | omega | (simp only [size_alloc, size_setB, size_drew]; omega)) ?_ ))) rfl (by omega) rfl ?_
            rw [fs_ntv]
            refine WO_nil ?_
            refine thn_normal ?_
            refine W_seq ?_
            refine W_seq ?_
            refine W_gen2 fun w32 hw32 => ?_
            have hE32 : Ext w28 w32 := by rw [hw32]; exact (by repeat (first | assumption | exact Ext.refl _ | refine Ext.alloc ?_ _ | refine Ext.drew ?_ | refine Ext.setB ?_ (by first | omega | (simp only [size_alloc, size_setB, size_drew]; omega)) _ | exact Ext.trans (by assumption) (by assumption) | refine Ext.trans ?_ (by assumption)))
            have hb12q : Hb w32 b12 (.cells (encF ((kF 0 (t.gas - intrW t) false tg t.fr (fromB t.value) (none, 0, 0)).sNative (ntvW tg))).toArray 65 (0, 0)) := by rw [hw32]; exact Hb.mk (Hb.h (by repeat (first | assumption | exact Hb.newY _ _ | refine Hb.alloc ?_ | refine Hb.drew ?_ | refine Hb.ext (by assumption) ?_ | exact Hb.setSameL (by first | omega | (simp only [size_alloc, size_setB, size_drew]; omega)) | exact Hb.setSame (by assumption) | refine Hb.set (by first | omega | (simp only [size_alloc, size_setB, size_drew]; omega)) ?_ )))
            clear hw32
            have hK31 : FmTy ((kF 0 (t.gas - intrW t) false tg t.fr (fromB t.value) (none, 0, 0)).sNative (ntvW tg)) := hKty.sNative (by omega)
            have hK31b := (openFB hK31).bd
            have hcn : Ce (encF ((kF 0 (t.gas - intrW t) false tg t.fr (fromB t.value) (none, 0, 0)).sNative (ntvW tg))).toArray (0 + 2) (.int .u8 (ntvW tg)) := ⟨rfl⟩
            have hb312 := hb3.ext hE32
            have hb1112 := hb11.ext hE32
            have hk32 := hk28.ext hE32
            have hz32 := hE32.1
            have hlb12 := hb12q.lt
            refine W_region rfl ?_
            refine WO_p (PS_fieldAddr 2 Hvad.runUnderlying65 rfl Hvad.sizeOf5 rfl rfl) ?_
            refine WO_load (.int _ _) Hvad.isAgg5 rfl (Hb.h (by repeat (first | assumption | exact Hb.newY _ _ | refine Hb.alloc ?_ | refine Hb.drew ?_ | refine Hb.ext (by assumption) ?_ | exact Hb.setSameL (by first | omega | (simp only [size_alloc, size_setB, size_drew]; omega)) | exact Hb.setSame (by assumption) | refine Hb.set (by first | omega | (simp only [size_alloc, size_setB, size_drew]; omega)) ?_ ))) (Ce.h (by first | assumption | exact ⟨rfl⟩)) ?_
            refine WO_p (PS_eql rfl rfl) ?_
            refine WO_nil ?_
            refine thn_normal ?_
            refine W_if rfl (fun hb31 => ?_) (fun hb31 => ?_)
            · have hb31p := hb31.h; try simp only [al_ete, al_dfn, Bool.not_eq_true', Bool.not_eq_false', al_ne, Bool.not_not, al_nn] at hb31p
              have hn0 : ntvW tg = 0 := hb31p
              refine W_drawE [false, false, false, false, false, false, false, false] hmix (by kernel_rfl) rfl ?_
              refine WH_p (PS_move_ptr rfl) rfl ?_
              refine WH_p (PS_nilCheck rfl) rfl ?_
              refine WH_p (PS_fieldAddr 0 Hvad.runUnderlying69 rfl Hvad.sizeOf53 rfl rfl) rfl ?_
              refine WH_load (.pointer _) Hvad.isAgg53 rfl (Hb.h (by repeat (first | assumption | exact Hb.newY _ _ | refine Hb.alloc ?_ | refine Hb.drew ?_ | refine Hb.ext (by assumption) ?_ | exact Hb.setSameL (by first | omega | (simp only [size_alloc, size_setB, size_drew]; omega)) | exact Hb.setSame (by assumption) | refine Hb.set (by first | omega | (simp only [size_alloc, size_setB, size_drew]; omega)) ?_ ))) (Ce.h (by first | assumption | exact ⟨rfl⟩)) ?_
              refine WH_loadA _ Hvad.isAgg25 Hvad.sizeOf25 rfl (Hb.h (by repeat (first | assumption | exact Hb.newY _ _ | refine Hb.alloc ?_ | refine Hb.drew ?_ | refine Hb.ext (by assumption) ?_ | exact Hb.setSameL (by first | omega | (simp only [size_alloc, size_setB, size_drew]; omega)) | exact Hb.setSame (by assumption) | refine Hb.set (by first | omega | (simp only [size_alloc, size_setB, size_drew]; omega)) ?_ ))) (by first | omega | assumption | rfl | decide | exact Nat.le_refl _ | (simp only [size_ic, Value.cells]; omega) | simp) (Xt.h (by first | assumption | exact Xt.whole rfl rfl | exact Xt.whole rfl (by simp only [size_ic, Value.cells]; omega) | exact ⟨rfl⟩)) ?_
              refine WH_call Hvad.call41 (by rfl) (Ret.mono (code_spec C c28 y28 B28 (bb m20) tg _ (VS.ext hM28.vs (by repeat (first | assumption | exact Ext.refl _ | refine Ext.alloc ?_ _ | refine Ext.drew ?_ | refine Ext.setB ?_ (by first | omega | (simp only [size_alloc, size_setB, size_drew]; omega)) _ | exact Ext.trans (by assumption) (by assumption) | refine Ext.trans ?_ (by assumption)))) htg (fun x hx => (hG28.vi.cd x hx).1)) ?_)
              rintro _ w33c ⟨hE33c, s33, L33, rfl, hN33, hB33, hL33⟩
              refine ⟨(fun h => by cases h), ?_⟩
              have hz33c := hE33c.1
              try simp only [size_alloc, size_setB, size_drew] at hz33c
              have hL256 : L33.length ≤ 256 := by rw [hL33]; exact codeLen_le hG28.vi
              refine WH_p (PS_fieldAddr 53 Hvad.runUnderlying65 rfl Hvad.sizeOf32 rfl rfl) rfl ?_
              refine WH_store1 Hvad.sizeOf32 rfl (v := .slice _ _ _) rfl (Hb.h (by repeat (first | assumption | exact Hb.newY _ _ | refine Hb.alloc ?_ | refine Hb.drew ?_ | refine Hb.ext (by assumption) ?_ | exact Hb.setSameL (by first | omega | (simp only [size_alloc, size_setB, size_drew]; omega)) | exact Hb.setSame (by assumption) | refine Hb.set (by first | omega | (simp only [size_alloc, size_setB, size_drew]; omega)) ?_ ))) rfl (by omega) rfl (fun h => by cases h) ?_
              rw [fs_code hK31]
              refine WH_nil ?_
              refine thn_normal ?_
              refine W_seq ?_
              refine W_gen2 fun w33 hw33 => ?_
              have hE33 : Ext w28 w33 := by rw [hw33]; exact (by repeat (first | assumption | exact Ext.refl _ | refine Ext.alloc ?_ _ | refine Ext.drew ?_ | refine Ext.setB ?_ (by first | omega | (simp only [size_alloc, size_setB, size_drew]; omega)) _ | exact Ext.trans (by assumption) (by assumption) | refine Ext.trans ?_ (by assumption)))
              have hb12c : Hb w33 b12 (.cells (encF (((kF 0 (t.gas - intrW t) false tg t.fr (fromB t.value) (none, 0, 0)).sNative (ntvW tg)).sCode s33)).toArray 65 (0, 0)) := by rw [hw33]; exact Hb.mk (Hb.h (by repeat (first | assumption | exact Hb.newY _ _ | refine Hb.alloc ?_ | refine Hb.drew ?_ | refine Hb.ext (by assumption) ?_ | exact Hb.setSameL (by first | omega | (simp only [size_alloc, size_setB, size_drew]; omega)) | exact Hb.setSame (by assumption) | refine Hb.set (by first | omega | (simp only [size_alloc, size_setB, size_drew]; omega)) ?_ )))
              have hbx33 : BX w33 none ((((kF 0 (t.gas - intrW t) false tg t.fr (fromB t.value) (none, 0, 0)).sNative (ntvW tg)).sCode s33)).code L33 := by rw [hw33]; exact (hN33.bx (β := none) (fun b hb => by cases hb) hB33).kt (KT.setB (T' := 65) (fz := (0, 0)) (Hb.mk (Hb.h (by repeat (first | assumption | exact Hb.newY _ _ | refine Hb.alloc ?_ | refine Hb.drew ?_ | refine Hb.ext (by assumption) ?_ | exact Hb.setSameL (by first | omega | (simp only [size_alloc, size_setB, size_drew]; omega)) | exact Hb.setSame (by assumption) | refine Hb.set (by first | omega | (simp only [size_alloc, size_setB, size_drew]; omega)) ?_ )))) (by decide))
              clear hw33
              have hK33 : FmTy (((kF 0 (t.gas - intrW t) false tg t.fr (fromB t.value) (none, 0, 0)).sNative (ntvW tg)).sCode s33) := hK31.sCode
              have hK33b := (openFB hK33).bd
              have hb313 := hb3.ext hE33
              have hz33 := hE33.1
              have hlb12c := hb12c.lt
              refine W_region rfl ?_
              refine WO_p (PS_fieldAddr 107 Hvad.runUnderlying35 rfl Hvad.sizeOf32 rfl rfl) ?_
              refine WO_load (.slice _ _ _) Hvad.isAgg32 rfl (Hb.h (by repeat (first | assumption | exact Hb.newY _ _ | refine Hb.alloc ?_ | refine Hb.drew ?_ | refine Hb.ext (by assumption) ?_ | exact Hb.setSameL (by first | omega | (simp only [size_alloc, size_setB, size_drew]; omega)) | exact Hb.setSame (by assumption) | refine Hb.set (by first | omega | (simp only [size_alloc, size_setB, size_drew]; omega)) ?_ ))) (Ce.h (by first | assumption | exact ⟨rfl⟩)) ?_
              refine WO_call Hvad.call42 (by rfl) (Ret.mono (copiedEI_spec t.data t.db _ (htx.da.ext (Ext.trans hEw28 (by repeat (first | assumption | exact Ext.refl _ | refine Ext.alloc ?_ _ | refine Ext.drew ?_ | refine Ext.setB ?_ (by first | omega | (simp only [size_alloc, size_setB, size_drew]; omega)) _ | exact Ext.trans (by assumption) (by assumption) | refine Ext.trans ?_ (by assumption))))) (by omega)) ?_)
              rintro _ w34c ⟨hE34c, s34, rfl, hN34⟩
              have hz34c := hE34c.1
              try simp only [size_alloc, size_setB, size_drew] at hz34c
              refine WO_p (PS_fieldAddr 54 Hvad.runUnderlying65 rfl Hvad.sizeOf32 rfl rfl) ?_
              refine WO_store1 Hvad.sizeOf32 rfl (v := .slice _ _ _) rfl (Hb.h (by repeat (first | assumption | exact Hb.newY _ _ | refine Hb.alloc ?_ | refine Hb.drew ?_ | refine Hb.ext (by assumption) ?_ | exact Hb.setSameL (by first | omega | (simp only [size_alloc, size_setB, size_drew]; omega)) | exact Hb.setSame (by assumption) | refine Hb.set (by first | omega | (simp only [size_alloc, size_setB, size_drew]; omega)) ?_ ))) rfl (by omega) rfl ?_
              rw [fs_input hK33]
              refine WO_nil ?_
              refine thn_normal ?_
              refine W_seq ?_
              refine W_gen2 fun w34 hw34 => ?_
              have hE34 : Ext w28 w34 := by rw [hw34]; exact (by repeat (first | assumption | exact Ext.refl _ | refine Ext.alloc ?_ _ | refine Ext.drew ?_ | refine Ext.setB ?_ (by first | omega | (simp only [size_alloc, size_setB, size_drew]; omega)) _ | exact Ext.trans (by assumption) (by assumption) | refine Ext.trans ?_ (by assumption)))
              have hb12d : Hb w34 b12 (.cells (encF (((((kF 0 (t.gas - intrW t) false tg t.fr (fromB t.value) (none, 0, 0)).sNative (ntvW tg)).sCode s33)).sInput s34)).toArray 65 (0, 0)) := by rw [hw34]; exact Hb.mk (Hb.h (by repeat (first | assumption | exact Hb.newY _ _ | refine Hb.alloc ?_ | refine Hb.drew ?_ | refine Hb.ext (by assumption) ?_ | exact Hb.setSameL (by first | omega | (simp only [size_alloc, size_setB, size_drew]; omega)) | exact Hb.setSame (by assumption) | refine Hb.set (by first | omega | (simp only [size_alloc, size_setB, size_drew]; omega)) ?_ )))
              have hbx34 : BX w34 none ((((kF 0 (t.gas - intrW t) false tg t.fr (fromB t.value) (none, 0, 0)).sNative (ntvW tg)).sCode s33)).code L33 := by rw [hw34]; exact (hbx33.ext hE34c).kt (KT.setB (T' := 65) (fz := (0, 0)) (hb12c.ext hE34c) (by decide))
              have hin34 : BS w34 none s34 := by rw [hw34]; exact (hN34.bs (β := none) (fun b hb => by cases hb) htx.dr).kt (KT.setB (T' := 65) (fz := (0, 0)) (hb12c.ext hE34c) (by decide))
              clear hw34
              have hK34 : FmTy (((((kF 0 (t.gas - intrW t) false tg t.fr (fromB t.value) (none, 0, 0)).sNative (ntvW tg)).sCode s33)).sInput s34) := hK33.sInput
              have hx34 : Xt (encF (((((kF 0 (t.gas - intrW t) false tg t.fr (fromB t.value) (none, 0, 0)).sNative (ntvW tg)).sCode s33)).sInput s34)).toArray 0 (0 + 65) (encF (((((kF 0 (t.gas - intrW t) false tg t.fr (fromB t.value) (none, 0, 0)).sNative (ntvW tg)).sCode s33)).sInput s34)).toArray := Xt.whole rfl (by simpa using encF_len hK34)
              have hl34 : (encF (((((kF 0 (t.gas - intrW t) false tg t.fr (fromB t.value) (none, 0, 0)).sNative (ntvW tg)).sCode s33)).sInput s34)).toArray.size = 65 := by simpa using encF_len hK34
              have hcap34 := hN34.cap
              have hlen34 := hN34.len
              have hP34 : EnP y28 m20 0 ((((((kF 0 (t.gas - intrW t) false tg t.fr (fromB t.value) (none, 0, 0)).sNative (ntvW tg)).sCode s33)).sInput s34).sCb L33) := ⟨by rw [htop20]; rfl, by omega, hmt20, hK34.sCb, by show (L33).length ≤ 512; omega, hG28.vi, by rw [hG28.nm]; decide, by have := hG28.j; omega, htg28, fun _ _ => hfrE28, fun _ _ => by show wv (fromB t.value) ≤ wv (y28.bal t.fr); rw [hbal28]; exact hpay, by rw [hG28.now.sum]; omega⟩
              refine W_region rfl ?_
              refine WO_p (PS_move_ptr rfl) ?_
              refine WO_loadA _ Hvad.isAgg65 Hvad.sizeOf65 rfl (Hb.h (by repeat (first | assumption | exact Hb.newY _ _ | refine Hb.alloc ?_ | refine Hb.drew ?_ | refine Hb.ext (by assumption) ?_ | exact Hb.setSameL (by first | omega | (simp only [size_alloc, size_setB, size_drew]; omega)) | exact Hb.setSame (by assumption) | refine Hb.set (by first | omega | (simp only [size_alloc, size_setB, size_drew]; omega)) ?_ ))) (by first | omega | assumption | rfl | decide | exact Nat.le_refl _ | (simp only [size_ic, Value.cells]; omega) | simp) (Xt.h (by first | assumption | exact Xt.whole rfl rfl | exact Xt.whole rfl (by simp only [size_ic, Value.cells]; omega) | exact ⟨rfl⟩)) ?_
              refine WO_call Hvad.call43 (by rfl) (Ret.mono (enter_spec C c28 y28 B28 m20 0 ((((((kF 0 (t.gas - intrW t) false tg t.fr (fromB t.value) (none, 0, 0)).sNative (ntvW tg)).sCode s33)).sInput s34).sCb L33) _ (MS.ext hM28 hE34) hP34 (by rw [hbbn]; exact hbx34) (by rw [hbbn]; exact hin34)) ?_)
              rintro _ w43 ⟨x43, y43, hx43, hR43, hA43⟩
              refine WO_nil ?_
              refine thn_normal ?_
              refine W_seq ?_
              refine W_region rfl ?_
              refine WO_p (PS_assign_int rfl) ?_
              refine WO_nil ?_
              refine thn_normal ?_
              refine W_ret ?_
              refine thn_ret ?_
              refine bodyQ_ret1 Hvad.results13 rfl (.int _ _) rfl ?_
              exact ⟨⟨_, rfl⟩, y43, _, SS, MRet.trans hS28 (MRet.pre hE34 hR43), Or.inl (ri_open hTI hst20 hf720 hb820 hx43 hG28 (by omega) (by rw [ha020]; omega) (by rw [hs020]; omega) hA43 (by split <;> omega) (fok_open (g := ((((kF 0 (t.gas - intrW t) false tg t.fr (fromB t.value) (none, 0, 0)).sNative (ntvW tg)).sCode s33)).sInput s34) (L := L33) (Or.inl rfl) rfl rfl (by omega) ⟨by show s34.2.1 ≤ 717280; omega, hcap34⟩ hN33.cap (fun h => absurd hn0 h) (hA43.en _ htg28) _) hG28.nm (by show 0 ≤ t.gas - intrW t; omega) (by rw [htx20]; rfl) (by show t.gas - intrW t ≤ 1048576; omega))⟩
            · have hb31p := hb31.h; try simp only [al_ete, al_dfn, Bool.not_eq_true', Bool.not_eq_false', al_ne, Bool.not_not, al_nn] at hb31p
              have hn0 : ntvW tg ≠ 0 := hb31p
              refine W_skip ?_
              refine thn_normal ?_
              refine W_seq ?_
              refine W_gen2 fun w33 hw33 => ?_
              have hE33 : Ext w28 w33 := by rw [hw33]; exact (by repeat (first | assumption | exact Ext.refl _ | refine Ext.alloc ?_ _ | refine Ext.drew ?_ | refine Ext.setB ?_ (by first | omega | (simp only [size_alloc, size_setB, size_drew]; omega)) _ | exact Ext.trans (by assumption) (by assumption) | refine Ext.trans ?_ (by assumption)))
              have hb12c : Hb w33 b12 (.cells (encF ((kF 0 (t.gas - intrW t) false tg t.fr (fromB t.value) (none, 0, 0)).sNative (ntvW tg))).toArray 65 (0, 0)) := by rw [hw33]; exact Hb.mk (Hb.h (by repeat (first | assumption | exact Hb.newY _ _ | refine Hb.alloc ?_ | refine Hb.drew ?_ | refine Hb.ext (by assumption) ?_ | exact Hb.setSameL (by first | omega | (simp only [size_alloc, size_setB, size_drew]; omega)) | exact Hb.setSame (by assumption) | refine Hb.set (by first | omega | (simp only [size_alloc, size_setB, size_drew]; omega)) ?_ )))
              have hbx33 : BX w33 none (((kF 0 (t.gas - intrW t) false tg t.fr (fromB t.value) (none, 0, 0)).sNative (ntvW tg))).code ([] : List Int) := Or.inl ⟨rfl, rfl, rfl⟩
              clear hw33
              have hK33 : FmTy ((kF 0 (t.gas - intrW t) false tg t.fr (fromB t.value) (none, 0, 0)).sNative (ntvW tg)) := hK31
              have hK33b := (openFB hK33).bd
              have hb313 := hb3.ext hE33
              have hz33 := hE33.1
              have hlb12c := hb12c.lt
              refine W_region rfl ?_
              refine WO_p (PS_fieldAddr 107 Hvad.runUnderlying35 rfl Hvad.sizeOf32 rfl rfl) ?_
              refine WO_load (.slice _ _ _) Hvad.isAgg32 rfl (Hb.h (by repeat (first | assumption | exact Hb.newY _ _ | refine Hb.alloc ?_ | refine Hb.drew ?_ | refine Hb.ext (by assumption) ?_ | exact Hb.setSameL (by first | omega | (simp only [size_alloc, size_setB, size_drew]; omega)) | exact Hb.setSame (by assumption) | refine Hb.set (by first | omega | (simp only [size_alloc, size_setB, size_drew]; omega)) ?_ ))) (Ce.h (by first | assumption | exact ⟨rfl⟩)) ?_
              refine WO_call Hvad.call42 (by rfl) (Ret.mono (copiedEI_spec t.data t.db _ (htx.da.ext (Ext.trans hEw28 (by repeat (first | assumption | exact Ext.refl _ | refine Ext.alloc ?_ _ | refine Ext.drew ?_ | refine Ext.setB ?_ (by first | omega | (simp only [size_alloc, size_setB, size_drew]; omega)) _ | exact Ext.trans (by assumption) (by assumption) | refine Ext.trans ?_ (by assumption))))) (by omega)) ?_)
              rintro _ w34c ⟨hE34c, s34, rfl, hN34⟩
              have hz34c := hE34c.1
              try simp only [size_alloc, size_setB, size_drew] at hz34c
              refine WO_p (PS_fieldAddr 54 Hvad.runUnderlying65 rfl Hvad.sizeOf32 rfl rfl) ?_
              refine WO_store1 Hvad.sizeOf32 rfl (v := .slice _ _ _) rfl (Hb.h (by repeat (first | assumption | exact Hb.newY _ _ | refine Hb.alloc ?_ | refine Hb.drew ?_ | refine Hb.ext (by assumption) ?_ | exact Hb.setSameL (by first | omega | (simp only [size_alloc, size_setB, size_drew]; omega)) | exact Hb.setSame (by assumption) | refine Hb.set (by first | omega | (simp only [size_alloc, size_setB, size_drew]; omega)) ?_ ))) rfl (by omega) rfl ?_
              rw [fs_input hK33]
              refine WO_nil ?_
              refine thn_normal ?_
              refine W_seq ?_
              refine W_gen2 fun w34 hw34 => ?_
              have hE34 : Ext w28 w34 := by rw [hw34]; exact (by repeat (first | assumption | exact Ext.refl _ | refine Ext.alloc ?_ _ | refine Ext.drew ?_ | refine Ext.setB ?_ (by first | omega | (simp only [size_alloc, size_setB, size_drew]; omega)) _ | exact Ext.trans (by assumption) (by assumption) | refine Ext.trans ?_ (by assumption)))
              have hb12d : Hb w34 b12 (.cells (encF ((((kF 0 (t.gas - intrW t) false tg t.fr (fromB t.value) (none, 0, 0)).sNative (ntvW tg))).sInput s34)).toArray 65 (0, 0)) := by rw [hw34]; exact Hb.mk (Hb.h (by repeat (first | assumption | exact Hb.newY _ _ | refine Hb.alloc ?_ | refine Hb.drew ?_ | refine Hb.ext (by assumption) ?_ | exact Hb.setSameL (by first | omega | (simp only [size_alloc, size_setB, size_drew]; omega)) | exact Hb.setSame (by assumption) | refine Hb.set (by first | omega | (simp only [size_alloc, size_setB, size_drew]; omega)) ?_ )))
              have hbx34 : BX w34 none (((kF 0 (t.gas - intrW t) false tg t.fr (fromB t.value) (none, 0, 0)).sNative (ntvW tg))).code ([] : List Int) := by rw [hw34]; exact (hbx33.ext hE34c).kt (KT.setB (T' := 65) (fz := (0, 0)) (hb12c.ext hE34c) (by decide))
              have hin34 : BS w34 none s34 := by rw [hw34]; exact (hN34.bs (β := none) (fun b hb => by cases hb) htx.dr).kt (KT.setB (T' := 65) (fz := (0, 0)) (hb12c.ext hE34c) (by decide))
              clear hw34
              have hK34 : FmTy ((((kF 0 (t.gas - intrW t) false tg t.fr (fromB t.value) (none, 0, 0)).sNative (ntvW tg))).sInput s34) := hK33.sInput
              have hx34 : Xt (encF ((((kF 0 (t.gas - intrW t) false tg t.fr (fromB t.value) (none, 0, 0)).sNative (ntvW tg))).sInput s34)).toArray 0 (0 + 65) (encF ((((kF 0 (t.gas - intrW t) false tg t.fr (fromB t.value) (none, 0, 0)).sNative (ntvW tg))).sInput s34)).toArray := Xt.whole rfl (by simpa using encF_len hK34)
              have hl34 : (encF ((((kF 0 (t.gas - intrW t) false tg t.fr (fromB t.value) (none, 0, 0)).sNative (ntvW tg))).sInput s34)).toArray.size = 65 := by simpa using encF_len hK34
              have hcap34 := hN34.cap
              have hlen34 := hN34.len
              have hP34 : EnP y28 m20 0 (((((kF 0 (t.gas - intrW t) false tg t.fr (fromB t.value) (none, 0, 0)).sNative (ntvW tg))).sInput s34).sCb ([] : List Int)) := ⟨by rw [htop20]; rfl, by omega, hmt20, hK34.sCb, by show (([] : List Int)).length ≤ 512; (show 0 ≤ 512; decide), hG28.vi, by rw [hG28.nm]; decide, by have := hG28.j; omega, htg28, fun _ _ => hfrE28, fun _ _ => by show wv (fromB t.value) ≤ wv (y28.bal t.fr); rw [hbal28]; exact hpay, by rw [hG28.now.sum]; omega⟩
              refine W_region rfl ?_
              refine WO_p (PS_move_ptr rfl) ?_
              refine WO_loadA _ Hvad.isAgg65 Hvad.sizeOf65 rfl (Hb.h (by repeat (first | assumption | exact Hb.newY _ _ | refine Hb.alloc ?_ | refine Hb.drew ?_ | refine Hb.ext (by assumption) ?_ | exact Hb.setSameL (by first | omega | (simp only [size_alloc, size_setB, size_drew]; omega)) | exact Hb.setSame (by assumption) | refine Hb.set (by first | omega | (simp only [size_alloc, size_setB, size_drew]; omega)) ?_ ))) (by first | omega | assumption | rfl | decide | exact Nat.le_refl _ | (simp only [size_ic, Value.cells]; omega) | simp) (Xt.h (by first | assumption | exact Xt.whole rfl rfl | exact Xt.whole rfl (by simp only [size_ic, Value.cells]; omega) | exact ⟨rfl⟩)) ?_
              refine WO_call Hvad.call43 (by rfl) (Ret.mono (enter_spec C c28 y28 B28 m20 0 (((((kF 0 (t.gas - intrW t) false tg t.fr (fromB t.value) (none, 0, 0)).sNative (ntvW tg))).sInput s34).sCb ([] : List Int)) _ (MS.ext hM28 hE34) hP34 (by rw [hbbn]; exact hbx34) (by rw [hbbn]; exact hin34)) ?_)
              rintro _ w43 ⟨x43, y43, hx43, hR43, hA43⟩
              refine WO_nil ?_
              refine thn_normal ?_
              refine W_seq ?_
              refine W_region rfl ?_
              refine WO_p (PS_assign_int rfl) ?_
              refine WO_nil ?_
              refine thn_normal ?_
              refine W_ret ?_
              refine thn_ret ?_
              refine bodyQ_ret1 Hvad.results13 rfl (.int _ _) rfl ?_
              exact ⟨⟨_, rfl⟩, y43, _, SS, MRet.trans hS28 (MRet.pre hE34 hR43), Or.inl (ri_open hTI hst20 hf720 hb820 hx43 hG28 (by omega) (by rw [ha020]; omega) (by rw [hs020]; omega) hA43 (by split <;> omega) (fok_open (g := (((kF 0 (t.gas - intrW t) false tg t.fr (fromB t.value) (none, 0, 0)).sNative (ntvW tg))).sInput s34) (L := ([] : List Int)) (Or.inl rfl) rfl rfl (by (show 0 ≤ 512; decide)) ⟨by show s34.2.1 ≤ 717280; omega, hcap34⟩ (Nat.le_refl _) (fun _ => ⟨by show ntvW tg = 4 ∨ ntvW tg = 5; omega, rfl, rfl⟩) (hA43.en _ htg28) _) hG28.nm (by show 0 ≤ t.gas - intrW t; omega) (by rw [htx20]; rfl) (by show t.gas - intrW t ≤ 1048576; omega))⟩
          · have hb28p := hb28.h; try simp only [al_ete, al_dfn, Bool.not_eq_true', Bool.not_eq_false', al_ne, Bool.not_not, al_nn] at hb28p
            have hcr2 : t.create = true := by simpa using hb28p
            refine W_skip ?_
            refine thn_normal ?_
            refine W_seq ?_
            refine W_seq ?_
            refine W_region rfl ?_
            refine WO_p (PS_move_ptr rfl) ?_
            refine WO_loadA _ Hvad.isAgg25 Hvad.sizeOf25 rfl (Hb.h (by repeat (first | assumption | exact Hb.newY _ _ | refine Hb.alloc ?_ | refine Hb.drew ?_ | refine Hb.ext (by assumption) ?_ | exact Hb.setSameL (by first | omega | (simp only [size_alloc, size_setB, size_drew]; omega)) | exact Hb.setSame (by assumption) | refine Hb.set (by first | omega | (simp only [size_alloc, size_setB, size_drew]; omega)) ?_ ))) (by first | omega | assumption | rfl | decide | exact Nat.le_refl _ | (simp only [size_ic, Value.cells]; omega) | simp) (Xt.h (by first | assumption | exact Xt.whole rfl rfl | exact Xt.whole rfl (by simp only [size_ic, Value.cells]; omega) | exact ⟨rfl⟩)) ?_
            refine WO_call Hvad.call44 (by rfl) (Ret.mono (taken_spec C c28 y28 B28 m20 tg _ (MS.ext hM28 hE29) hG28.vi htg) ?_)
            rintro _ w37 ⟨hE37, q37, rfl⟩
            have hz37 := hE37.1
            have hb1237 := hb12.ext hE37
            have hE2837 := hE29.trans hE37
            refine WO_nil ?_
            refine thn_normal ?_
            refine W_if rfl (fun hb38 => ?_) (fun hb38 => ?_)
            · have hb38p := hb38.h; try simp only [al_ete, al_dfn, Bool.not_eq_true', Bool.not_eq_false', al_ne, Bool.not_not, al_nn] at hb38p
              have htk : True := trivial
              refine W_seq ?_
              refine W_region rfl ?_
              refine WO_p (PS_move_ptr rfl) ?_
              refine WO_p (PS_nilCheck rfl) ?_
              refine WO_p (PS_fieldAddr 2404 Hvad.runUnderlying69 rfl Hvad.sizeOf5 rfl rfl) ?_
              refine WO_store1 Hvad.sizeOf5 rfl (v := .int _ _) rfl (Hb.h (hk28.ext hE2837)) rfl (by rw [hkz28]; decide) rfl ?_
              refine WO_nil ?_
              refine thn_normal ?_
              refine W_seq ?_
              refine W_gen2 fun w38 hw38 => ?_
              obtain ⟨c38, hM38, hs38⟩ : ∃ c', MS w38 C c' y28 B28 { m20 with phase := 2 } ∧ MStep w37 w38 C B28 m20 B28 { m20 with phase := 2 } := by rw [hw38]; exact ⟨_, (hM28.ext hE2837).put_phase 2 (by decide)⟩
              clear hw38
              refine W_region rfl ?_
              refine WO_p (PS_move_ptr rfl) ?_
              refine WO_p (PS_nilCheck rfl) ?_
              refine WO_p (PS_fieldAddr 2405 Hvad.runUnderlying69 rfl Hvad.sizeOf5 rfl rfl) ?_
              refine WO_store1 Hvad.sizeOf5 rfl (v := .int _ _) rfl hM38.vs.blk.h rfl (by rw [hM38.sz]; decide) rfl ?_
              refine WO_nil ?_
              refine thn_normal ?_
              refine W_seq ?_
              refine W_gen2 fun w39 hw39 => ?_
              obtain ⟨c39, hM39, hs39⟩ : ∃ c', MS w39 C c' y28 B28 { m20 with phase := 2, status := 12 } ∧ MStep w38 w39 C B28 { m20 with phase := 2 } B28 { m20 with phase := 2, status := 12 } := by rw [hw39]; exact ⟨_, hM38.put_status 12 (by decide)⟩
              clear hw39
              obtain ⟨f0, hf0⟩ := frames_lt hM28.ty (i := 0) (by decide)
              refine W_region rfl ?_
              refine WO_p (PS_move_ptr rfl) ?_
              refine WO_p (PS_nilCheck rfl) ?_
              refine WO_p (PS_fieldAddr 1803 Hvad.runUnderlying69 rfl Hvad.sizeOf66 rfl rfl) ?_
              refine WO_p (PS_indexA Hvad.runUnderlying66 Hvad.sizeOf65 rfl rfl (by omega) (by omega)) ?_
              refine WO_p (PS_fieldAddr 7 Hvad.runUnderlying65 rfl Hvad.sizeOf26 rfl rfl) ?_
              refine WO_store1 Hvad.sizeOf26 rfl (v := .int _ _) rfl hM39.vs.blk.h rfl (by rw [hM39.sz]; decide) rfl ?_
              refine WO_nil ?_
              refine thn_normal ?_
              refine W_seq ?_
              refine W_gen2 fun w40 hw40 => ?_
              obtain ⟨c40, hM40, hs40⟩ : ∃ c', MS w40 C c' y28 B28 { m20 with phase := 2, status := 12, frames := m20.frames.set 0 { f0 with gas := 0 } } ∧ MStep w39 w40 C B28 { m20 with phase := 2, status := 12 } B28 { m20 with phase := 2, status := 12, frames := m20.frames.set 0 { f0 with gas := 0 } } := by rw [hw40]; exact ⟨_, hM39.putF_gas (t := 0) (f := f0) hf0 0 (by decide)⟩
              clear hw40
              have hl0 := lt_of_getElem? hf0
              have hf1 : (m20.frames.set 0 { f0 with gas := 0 })[0]? = some { f0 with gas := 0 } := List.getElem?_set_self hl0
              refine W_region rfl ?_
              refine WO_p (PS_move_ptr rfl) ?_
              refine WO_p (PS_move_int rfl) ?_
              refine WO_p (PS_nilCheck rfl) ?_
              refine WO_p (PS_fieldAddr 1803 Hvad.runUnderlying69 rfl Hvad.sizeOf66 rfl rfl) ?_
              refine WO_p (PS_indexA Hvad.runUnderlying66 Hvad.sizeOf65 rfl rfl (by omega) (by omega)) ?_
              refine WO_p (PS_fieldAddr 8 Hvad.runUnderlying65 rfl Hvad.sizeOf21 rfl rfl) ?_
              refine WO_store1 Hvad.sizeOf21 rfl (v := .int _ _) rfl hM40.vs.blk.h rfl (by rw [hM40.sz]; decide) rfl ?_
              refine WO_nil ?_
              refine thn_normal ?_
              refine W_seq ?_
              refine W_gen2 fun w41 hw41 => ?_
              obtain ⟨c41, hM41, hs41⟩ : ∃ c', MS w41 C c' y28 B28 { m20 with phase := 2, status := 12, frames := (m20.frames.set 0 { f0 with gas := 0 }).set 0 { f0 with gas := 0, snap := v.nmarks } } ∧ MStep w40 w41 C B28 { m20 with phase := 2, status := 12, frames := m20.frames.set 0 { f0 with gas := 0 } } B28 { m20 with phase := 2, status := 12, frames := (m20.frames.set 0 { f0 with gas := 0 }).set 0 { f0 with gas := 0, snap := v.nmarks } } := by rw [hw41]; exact ⟨_, hM40.putF_snap (t := 0) (f := { f0 with gas := 0 }) hf1 v.nmarks (by rw [hF.nm]; exact i32_0)⟩
              clear hw41
              rw [List.set_set] at hM41 hs41
              have hCk := ck_coll hTI hM28.ty hG28 (by omega) (by rw [ha020]; omega) (by rw [hs020]; omega) hmt20 htop20 hf0 { f0 with gas := 0, snap := v.nmarks } rfl hF.nm
              have hS41 := hS28.trans (MStep.pre hE2837 (hs38.trans (hs39.trans (hs40.trans hs41))))
              refine W_region rfl ?_
              refine WO_p (PS_assign_int rfl) ?_
              refine WO_nil ?_
              refine thn_normal ?_
              refine W_ret ?_
              refine thn_ret ?_
              refine bodyQ_ret1 Hvad.results13 rfl (.int _ _) rfl ?_
              exact ⟨⟨_, rfl⟩, y28, _, SS, ⟨c41, B28, hM41, hS41⟩, Or.inr ⟨by show (2 : Int) ≠ 1; decide, hCk⟩⟩
            · have hb38p := hb38.h; try simp only [al_ete, al_dfn, Bool.not_eq_true', Bool.not_eq_false', al_ne, Bool.not_not, al_nn] at hb38p
              have htk : True := trivial
              refine W_skip ?_
              refine thn_normal ?_
              refine W_seq ?_
              refine W_region rfl ?_
              refine WO_p (PS_fieldAddr 0 Hvad.runUnderlying65 rfl Hvad.sizeOf5 rfl rfl) ?_
              refine WO_store1 Hvad.sizeOf5 rfl (v := .int _ _) rfl (Hb.h (by repeat (first | assumption | exact Hb.newY _ _ | refine Hb.alloc ?_ | refine Hb.drew ?_ | refine Hb.ext (by assumption) ?_ | exact Hb.setSameL (by first | omega | (simp only [size_alloc, size_setB, size_drew]; omega)) | exact Hb.setSame (by assumption) | refine Hb.set (by first | omega | (simp only [size_alloc, size_setB, size_drew]; omega)) ?_ ))) rfl (by omega) rfl ?_
              rw [fs_kind]
              have hK43 : FmTy ((kF 0 (t.gas - intrW t) false tg t.fr (fromB t.value) (none, 0, 0)).sKind 1) := hKty.sKind (by decide)
              have hK43b := (openFB hK43).bd
              refine WO_nil ?_
              refine thn_normal ?_
              refine W_seq ?_
              refine W_gen2 fun w43b hw43b => ?_
              have hE43b : Ext w28 w43b := by rw [hw43b]; exact (by repeat (first | assumption | exact Ext.refl _ | refine Ext.alloc ?_ _ | refine Ext.drew ?_ | refine Ext.setB ?_ (by first | omega | (simp only [size_alloc, size_setB, size_drew]; omega)) _ | exact Ext.trans (by assumption) (by assumption) | refine Ext.trans ?_ (by assumption)))
              have hb12q : Hb w43b b12 (.cells (encF ((kF 0 (t.gas - intrW t) false tg t.fr (fromB t.value) (none, 0, 0)).sKind 1)).toArray 65 (0, 0)) := by rw [hw43b]; exact Hb.mk (Hb.h (by repeat (first | assumption | exact Hb.newY _ _ | refine Hb.alloc ?_ | refine Hb.drew ?_ | refine Hb.ext (by assumption) ?_ | exact Hb.setSameL (by first | omega | (simp only [size_alloc, size_setB, size_drew]; omega)) | exact Hb.setSame (by assumption) | refine Hb.set (by first | omega | (simp only [size_alloc, size_setB, size_drew]; omega)) ?_ )))
              clear hw43b
              have hb313 := hb3.ext hE43b
              have hz43b := hE43b.1
              have hlb12 := hb12q.lt
              have hcd5 := hV.cd hcr2
              refine W_region rfl ?_
              refine WO_p (PS_fieldAddr 107 Hvad.runUnderlying35 rfl Hvad.sizeOf32 rfl rfl) ?_
              refine WO_load (.slice _ _ _) Hvad.isAgg32 rfl (Hb.h (by repeat (first | assumption | exact Hb.newY _ _ | refine Hb.alloc ?_ | refine Hb.drew ?_ | refine Hb.ext (by assumption) ?_ | exact Hb.setSameL (by first | omega | (simp only [size_alloc, size_setB, size_drew]; omega)) | exact Hb.setSame (by assumption) | refine Hb.set (by first | omega | (simp only [size_alloc, size_setB, size_drew]; omega)) ?_ ))) (Ce.h (by first | assumption | exact ⟨rfl⟩)) ?_
              refine WO_call Hvad.call42 (by rfl) (Ret.mono (copiedEI_spec t.data t.db _ (htx.da.ext (Ext.trans hEw28 (by repeat (first | assumption | exact Ext.refl _ | refine Ext.alloc ?_ _ | refine Ext.drew ?_ | refine Ext.setB ?_ (by first | omega | (simp only [size_alloc, size_setB, size_drew]; omega)) _ | exact Ext.trans (by assumption) (by assumption) | refine Ext.trans ?_ (by assumption))))) (by omega)) ?_)
              rintro _ w44c ⟨hE44c, s44, rfl, hN44⟩
              have hz44c := hE44c.1
              try simp only [size_alloc, size_setB, size_drew] at hz44c
              refine WO_p (PS_fieldAddr 53 Hvad.runUnderlying65 rfl Hvad.sizeOf32 rfl rfl) ?_
              refine WO_store1 Hvad.sizeOf32 rfl (v := .slice _ _ _) rfl (Hb.h (by repeat (first | assumption | exact Hb.newY _ _ | refine Hb.alloc ?_ | refine Hb.drew ?_ | refine Hb.ext (by assumption) ?_ | exact Hb.setSameL (by first | omega | (simp only [size_alloc, size_setB, size_drew]; omega)) | exact Hb.setSame (by assumption) | refine Hb.set (by first | omega | (simp only [size_alloc, size_setB, size_drew]; omega)) ?_ ))) rfl (by omega) rfl ?_
              rw [fs_code hK43]
              refine WO_nil ?_
              refine thn_normal ?_
              refine W_seq ?_
              refine W_gen2 fun w44 hw44 => ?_
              have hE44 : Ext w28 w44 := by rw [hw44]; exact (by repeat (first | assumption | exact Ext.refl _ | refine Ext.alloc ?_ _ | refine Ext.drew ?_ | refine Ext.setB ?_ (by first | omega | (simp only [size_alloc, size_setB, size_drew]; omega)) _ | exact Ext.trans (by assumption) (by assumption) | refine Ext.trans ?_ (by assumption)))
              have hb12d : Hb w44 b12 (.cells (encF (((kF 0 (t.gas - intrW t) false tg t.fr (fromB t.value) (none, 0, 0)).sKind 1).sCode s44)).toArray 65 (0, 0)) := by rw [hw44]; exact Hb.mk (Hb.h (by repeat (first | assumption | exact Hb.newY _ _ | refine Hb.alloc ?_ | refine Hb.drew ?_ | refine Hb.ext (by assumption) ?_ | exact Hb.setSameL (by first | omega | (simp only [size_alloc, size_setB, size_drew]; omega)) | exact Hb.setSame (by assumption) | refine Hb.set (by first | omega | (simp only [size_alloc, size_setB, size_drew]; omega)) ?_ )))
              have hbx44 : BX w44 none s44 t.db := by rw [hw44]; exact (hN44.bx (β := none) (fun b hb => by cases hb) htx.dr).kt (KT.setB (T' := 65) (fz := (0, 0)) (hb12q.ext hE44c) (by decide))
              clear hw44
              have hK44 : FmTy (((kF 0 (t.gas - intrW t) false tg t.fr (fromB t.value) (none, 0, 0)).sKind 1).sCode s44) := hK43.sCode
              have hx44 : Xt (encF (((kF 0 (t.gas - intrW t) false tg t.fr (fromB t.value) (none, 0, 0)).sKind 1).sCode s44)).toArray 0 (0 + 65) (encF (((kF 0 (t.gas - intrW t) false tg t.fr (fromB t.value) (none, 0, 0)).sKind 1).sCode s44)).toArray := Xt.whole rfl (by simpa using encF_len hK44)
              have hl44 : (encF (((kF 0 (t.gas - intrW t) false tg t.fr (fromB t.value) (none, 0, 0)).sKind 1).sCode s44)).toArray.size = 65 := by simpa using encF_len hK44
              have hcap44 := hN44.cap
              have hP44 : EnP y28 m20 0 ((((kF 0 (t.gas - intrW t) false tg t.fr (fromB t.value) (none, 0, 0)).sKind 1).sCode s44).sCb t.db) := ⟨by rw [htop20]; rfl, by omega, hmt20, hK44.sCb, by show t.db.length ≤ 512; omega, hG28.vi, by rw [hG28.nm]; decide, by have := hG28.j; omega, htg28, fun _ _ => hfrE28, fun _ _ => by show wv (fromB t.value) ≤ wv (y28.bal t.fr); rw [hbal28]; exact hpay, by rw [hG28.now.sum]; omega⟩
              refine W_region rfl ?_
              refine WO_p (PS_move_ptr rfl) ?_
              refine WO_loadA _ Hvad.isAgg65 Hvad.sizeOf65 rfl (Hb.h (by repeat (first | assumption | exact Hb.newY _ _ | refine Hb.alloc ?_ | refine Hb.drew ?_ | refine Hb.ext (by assumption) ?_ | exact Hb.setSameL (by first | omega | (simp only [size_alloc, size_setB, size_drew]; omega)) | exact Hb.setSame (by assumption) | refine Hb.set (by first | omega | (simp only [size_alloc, size_setB, size_drew]; omega)) ?_ ))) (by first | omega | assumption | rfl | decide | exact Nat.le_refl _ | (simp only [size_ic, Value.cells]; omega) | simp) (Xt.h (by first | assumption | exact Xt.whole rfl rfl | exact Xt.whole rfl (by simp only [size_ic, Value.cells]; omega) | exact ⟨rfl⟩)) ?_
              refine WO_call Hvad.call43 (by rfl) (Ret.mono (enter_spec C c28 y28 B28 m20 0 ((((kF 0 (t.gas - intrW t) false tg t.fr (fromB t.value) (none, 0, 0)).sKind 1).sCode s44).sCb t.db) _ (MS.ext hM28 hE44) hP44 (by rw [hbbn]; exact hbx44) (by rw [hbbn]; exact Or.inl ⟨rfl, rfl⟩)) ?_)
              rintro _ w43 ⟨x43, y43, hx43, hR43, hA43⟩
              refine WO_nil ?_
              refine thn_normal ?_
              refine W_seq ?_
              refine W_region rfl ?_
              refine WO_p (PS_assign_int rfl) ?_
              refine WO_nil ?_
              refine thn_normal ?_
              refine W_ret ?_
              refine bodyQ_ret1 Hvad.results13 rfl (.int _ _) rfl ?_
              exact ⟨⟨_, rfl⟩, y43, _, SS, MRet.trans hS28 (MRet.pre hE44 hR43), Or.inl (ri_open hTI hst20 hf720 hb820 hx43 hG28 (by omega) (by rw [ha020]; omega) (by rw [hs020]; omega) hA43 (by split <;> omega) (fok_open (g := ((kF 0 (t.gas - intrW t) false tg t.fr (fromB t.value) (none, 0, 0)).sKind 1).sCode s44) (L := t.db) (Or.inr rfl) rfl rfl (by omega) ⟨by show 0 ≤ 717280; decide, Nat.le_refl _⟩ hcap44 (fun h => absurd rfl h) (hA43.en _ htg28) _) hG28.nm (by show 0 ≤ t.gas - intrW t; omega) (by rw [htx20]; rfl) (by show t.gas - intrW t ≤ 1048576; omega))⟩

end Go.Proofs.YgvadwGreat
