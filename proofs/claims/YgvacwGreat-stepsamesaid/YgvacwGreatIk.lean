import Derived.Test.YgvacwGreatIj
namespace Go.Proofs.YgvacwGreat
set_option linter.unusedSimpArgs false
set_option linter.unusedVariables false
theorem PB.b104 [Om] {w : World} {s : SV} {L : List Int} {b : Nat} {r : Array Value} {o : Obj} (h : PB w s L) (hb : Hb w b (.cells r 104 (0, 0))) : PB (setB w b o) s L := h.kt (KT.setB hb (by decide))

set_option maxRecDepth 10000 in
set_option maxHeartbeats 4000000 in
theorem yNew_spec [O : Om] (w : World) (hO : OmB w) (s : SV) (l : List Ac) (e : Ev) (hin : InW w s l) (hev : EvOK w e) (hcc : ∀ x ∈ l, x.code.2.1 ≤ x.code.2.2) : Ret Hvac.prog 13 #[.slice s.1 s.2.1 s.2.2, .agg (encEv e).toArray] w fun u w' => Ext w w' ∧ ((u = .tuple #[.pointer none, .bool false] ∧ ¬ (wok l = true ∧ e.hash.2.1 ≤ 4)) ∨ (wok l = true ∧ e.hash.2.1 ≤ 4 ∧ ∃ C a tt sh, u = .tuple #[.pointer (some ⟨C, 0, none⟩), .bool true] ∧ w.heap.size ≤ C ∧ @YX (O.add C) (fun b => b = C) w' C (ysN { e with hash := sh } a tt) (ypN (l.map yacP) { e with hash := sh } (chunk e.hl e.hash.2.1)) [] [])) := by
  have hel := encEv_len hev
  have hel2 : (encEv e).toArray.size = 120 := by simpa using hel
  have hxe : Xt (encEv e).toArray 0 (0 + 120) (encEv e).toArray := Xt.whole rfl hel2
  have hce := encEv_hash hev
  obtain ⟨p, n, cp⟩ := s
  have hsl := hin.row.len
  dsimp only at hsl ⊢
  subst hsl
  refine Ret_of_W Hvac.func13 rfl rfl ?_
  refine W_seq ?_
  refine W_region rfl ?_
  refine WO_boxG (.agg _) rfl ?_
  intro b3 v3 hg3 hE3 hH3 hl3
  try simp only [size_alloc, size_setB, size_drew] at hg3
  have hzz3 := hE3.1
  try simp only [size_alloc, size_setB, size_drew] at hzz3
  refine WO_p (PS_assign_ptr rfl) ?_
  refine WO_p (PS_assign_bool rfl) ?_
  refine WO_nil ?_
  refine thn_normal ?_
  refine W_seq ?_
  refine W_seq ?_
  refine W_region rfl ?_
  refine WO_p (PS_move_slice rfl) ?_
  refine WO_call Hvac.call55 (by rfl) (Ret.mono (worldOK_spec (p, l.length, cp) l _ (hin.ext (by repeat (first | assumption | exact Ext.refl _ | refine Ext.alloc ?_ _ | refine Ext.drew ?_ | refine Ext.setB ?_ (by first | omega | (simp only [size_alloc, size_setB, size_drew]; omega)) _ | exact Ext.trans (by assumption) (by assumption) | refine Ext.trans ?_ (by assumption))))) ?_)
  rintro _ w55_0 ⟨rfl, hE55_0⟩
  have hz55_0 := hE55_0.1
  try simp only [size_alloc, size_setB, size_drew] at hz55_0
  refine WO_p (PS_not rfl) ?_
  refine WO_p (PS_move_bool rfl) ?_
  refine WO_if (t := 15) rfl (fun hb4 => ?_) (fun hb4 => ?_)
  · have hb4p := hb4.h; try simp only [al_ete, al_dfn, Bool.not_eq_true', Bool.not_eq_false', al_ne, Bool.not_not, al_nn] at hb4p
    have hwk : wok l = false := by simpa using hb4p
    refine WO_guardF rfl rfl hb4.h ?_
    refine WO_guardF rfl rfl hb4.h ?_
    refine WO_guardF rfl rfl hb4.h ?_
    refine WO_p (PS_pickT rfl hb4.h rfl) ?_
    refine WO_nil ?_
    refine thn_normal ?_
    refine W_condT rfl rfl ?_
    refine W_seq ?_
    refine W_region rfl ?_
    refine WO_p (PS_assign_ptr rfl) ?_
    refine WO_p (PS_assign_bool rfl) ?_
    refine WO_nil ?_
    refine thn_normal ?_
    refine W_ret ?_
    refine thn_ret ?_
    refine bodyQ_ret2 Hvac.results13 rfl rfl (.pointer _) (.bool _) rfl rfl ?_
    exact ⟨(by repeat (first | assumption | exact Ext.refl _ | refine Ext.alloc ?_ _ | refine Ext.drew ?_ | refine Ext.setB ?_ (by first | omega | (simp only [size_alloc, size_setB, size_drew]; omega)) _ | exact Ext.trans (by assumption) (by assumption) | refine Ext.trans ?_ (by assumption))), Or.inl ⟨rfl, fun h9 => by rw [hwk] at h9; cases h9.1⟩⟩
  · have hb4p := hb4.h; try simp only [al_ete, al_dfn, Bool.not_eq_true', Bool.not_eq_false', al_ne, Bool.not_not, al_nn] at hb4p
    have hwk : wok l = true := by simpa using hb4p
    have hl8 := wok_len hwk
    refine WO_guardT rfl rfl hb4.h ?_
    refine WO_loadA _ Hvac.isAgg31 Hvac.sizeOf31 rfl (Hb.h (by repeat (first | assumption | exact Hb.newY _ _ | refine Hb.alloc ?_ | refine Hb.drew ?_ | refine Hb.ext (by assumption) ?_ | exact Hb.setSameL (by first | omega | (simp only [size_alloc, size_setB, size_drew]; omega)) | exact Hb.setSame (by assumption) | refine Hb.set (by first | omega | (simp only [size_alloc, size_setB, size_drew]; omega)) ?_ ))) (by first | omega | assumption | rfl | decide | exact Nat.le_refl _ | (simp only [size_ic, Value.cells]; omega) | (simp [encWs]; done) | (simp; omega) | simp | exact encYA_sz (by assumption) | exact encYT_sz (by assumption) | exact encYM_sz (by assumption)) (Xt.h (by first | assumption | exact Xt.whole rfl rfl | exact Xt.whole rfl (by assumption) | exact Xt.whole rfl (by simp only [size_ic, Value.cells]; omega) | exact ⟨rfl⟩)) ?_
    refine WO_guardT rfl rfl hb4.h ?_
    refine WO_call Hvac.call52 (by rfl) (Ret.mono (envOK_spec e _ (hev.ext (by repeat (first | assumption | exact Ext.refl _ | refine Ext.alloc ?_ _ | refine Ext.drew ?_ | refine Ext.setB ?_ (by first | omega | (simp only [size_alloc, size_setB, size_drew]; omega)) _ | exact Ext.trans (by assumption) (by assumption) | refine Ext.trans ?_ (by assumption))))) ?_)
    rintro _ w52_4 ⟨rfl, hE52_4⟩
    have hz52_4 := hE52_4.1
    try simp only [size_alloc, size_setB, size_drew] at hz52_4
    refine WO_guardT rfl rfl hb4.h ?_
    refine WO_p (PS_not rfl) ?_
    refine WO_p (PS_pickF rfl hb4.h rfl) ?_
    refine WO_nil ?_
    refine thn_normal ?_
    refine W_if rfl (fun hb8 => ?_) (fun hb8 => ?_)
    · have hb8p := hb8.h; try simp only [al_ete, al_dfn, Bool.not_eq_true', Bool.not_eq_false', al_ne, Bool.not_not, al_nn] at hb8p
      have h4 : ¬ e.hash.2.1 ≤ 4 := by simpa using hb8p
      refine W_seq ?_
      refine W_region rfl ?_
      refine WO_p (PS_assign_ptr rfl) ?_
      refine WO_p (PS_assign_bool rfl) ?_
      refine WO_nil ?_
      refine thn_normal ?_
      refine W_ret ?_
      refine thn_ret ?_
      refine bodyQ_ret2 Hvac.results13 rfl rfl (.pointer _) (.bool _) rfl rfl ?_
      exact ⟨(by repeat (first | assumption | exact Ext.refl _ | refine Ext.alloc ?_ _ | refine Ext.drew ?_ | refine Ext.setB ?_ (by first | omega | (simp only [size_alloc, size_setB, size_drew]; omega)) _ | exact Ext.trans (by assumption) (by assumption) | refine Ext.trans ?_ (by assumption))), Or.inl ⟨rfl, fun h9 => h4 h9.2⟩⟩
    · have hb8p := hb8.h; try simp only [al_ete, al_dfn, Bool.not_eq_true', Bool.not_eq_false', al_ne, Bool.not_not, al_nn] at hb8p
      have h4 : e.hash.2.1 ≤ 4 := by simpa using hb8p
      refine W_skip ?_
      refine thn_normal ?_
      refine W_seq ?_
      refine W_region rfl ?_
      refine WO_allocG Hvac.zeroValue101 ?_
      intro b20 v20 hg20 hE20 hH20 hl20
      try simp only [size_alloc, size_setB, size_drew] at hg20
      have hzz20 := hE20.1
      try simp only [size_alloc, size_setB, size_drew] at hzz20
      replace hH20 : Hb v20 b20 (.cells ((encYS (ysE ev0)).toArray) 101 (0, 0)) := hH20
      refine WO_p (PS_assign_ptr rfl) ?_
      refine WO_nil ?_
      refine thn_normal ?_
      refine W_seq ?_
      obtain ⟨O2, hO2⟩ : ∃ O2 : Om, O2 = O.add b20 := ⟨_, rfl⟩
      have hO' : @OmB O2 v20 := by rw [hO2]; exact OmB.add (O := O) hO (by omega) hl20
      have hSo : (@Om.p O2) b20 := by rw [hO2]; exact Or.inr rfl
      clear hO
      have hO := hO'
      clear hO'
      have hO20 := hO
      have hb320 : Hb v20 b3 (.cells (encEv e).toArray 31 (0, 0)) := Hb.mk (Hb.h (by repeat (first | assumption | exact Hb.newY _ _ | refine Hb.alloc ?_ | refine Hb.drew ?_ | refine Hb.ext (by assumption) ?_ | exact Hb.setSameL (by first | omega | (simp only [size_alloc, size_setB, size_drew]; omega)) | exact Hb.setSame (by assumption) | refine Hb.set (by first | omega | (simp only [size_alloc, size_setB, size_drew]; omega)) ?_ )))
      have hEw20 : Ext w v20 := (by repeat (first | assumption | exact Ext.refl _ | refine Ext.alloc ?_ _ | refine Ext.drew ?_ | refine Ext.setB ?_ (by first | omega | (simp only [size_alloc, size_setB, size_drew]; omega)) _ | refine Ext.trans ?_ (by assumption)))
      have hszE := encYS_sz (x := ysE e) List.length_replicate List.length_replicate (hev.evb e.hash)
      have hsz0 := encYS_sz (x := ysE ev0) List.length_replicate List.length_replicate ⟨⟨rfl, by_zero 20⟩, ⟨rfl, by_zero 32⟩, ⟨rfl, by_zero 32⟩, ⟨rfl, by_zero 32⟩, by decide, by decide, by decide⟩
      refine W_region rfl ?_
      refine WO_p (PS_move_ptr rfl) ?_
      refine WO_loadA _ Hvac.isAgg31 Hvac.sizeOf31 rfl (Hb.h (by repeat (first | assumption | exact Hb.newY _ _ | refine Hb.alloc ?_ | refine Hb.drew ?_ | refine Hb.ext (by assumption) ?_ | exact Hb.setSameL (by first | omega | (simp only [size_alloc, size_setB, size_drew]; omega)) | exact Hb.setSame (by assumption) | refine Hb.set (by first | omega | (simp only [size_alloc, size_setB, size_drew]; omega)) ?_ ))) (by first | omega | assumption | rfl | decide | exact Nat.le_refl _ | (simp only [size_ic, Value.cells]; omega) | (simp [encWs]; done) | (simp; omega) | simp | exact encYA_sz (by assumption) | exact encYT_sz (by assumption) | exact encYM_sz (by assumption)) (Xt.h (by first | assumption | exact Xt.whole rfl rfl | exact Xt.whole rfl (by assumption) | exact Xt.whole rfl (by simp only [size_ic, Value.cells]; omega) | exact ⟨rfl⟩)) ?_
      refine WO_p (PS_nilCheck rfl) ?_
      refine WO_p (PS_fieldAddr 0 Hvac.runUnderlying101 rfl Hvac.sizeOf99 rfl rfl) ?_
      refine WO_p (PS_fieldAddr 59 Hvac.runUnderlying99 rfl Hvac.sizeOf31 rfl rfl) ?_
      refine WO_store Hvac.sizeOf31 rfl (v := .agg (encEv e).toArray) rfl (Hb.h (by repeat (first | assumption | exact Hb.newY _ _ | refine Hb.alloc ?_ | refine Hb.drew ?_ | refine Hb.ext (by assumption) ?_ | exact Hb.setSameL (by first | omega | (simp only [size_alloc, size_setB, size_drew]; omega)) | exact Hb.setSame (by assumption) | refine Hb.set (by first | omega | (simp only [size_alloc, size_setB, size_drew]; omega)) ?_ ))) hel2 (by rw [hsz0]; decide) (one_encEv e) ?_
      rw [show (Value.agg (encEv e).toArray).cells.toList = encEv e from rfl, encYS_ev hev]
      refine WO_nil ?_
      refine thn_normal ?_
      refine W_seq ?_
      refine W_gen fun w4 hw4 => ?_
      have hK4 : KeepO (fun b => b = b20) v20 w4 := by rw [hw4]; exact KeepO.setB (O := fun b => b = b20) (KeepO.refl _ _) (fun _ => rfl) _
      have hb4 : Hb w4 b20 (.cells (encYS (ysE e)).toArray 101 (0, 0)) := by rw [hw4]; exact Hb.mk (Hb.h (by repeat (first | assumption | exact Hb.newY _ _ | refine Hb.alloc ?_ | refine Hb.drew ?_ | refine Hb.ext (by assumption) ?_ | exact Hb.setSameL (by first | omega | (simp only [size_alloc, size_setB, size_drew]; omega)) | exact Hb.setSame (by assumption) | refine Hb.set (by first | omega | (simp only [size_alloc, size_setB, size_drew]; omega)) ?_ )))
      have hb34 : Hb w4 b3 (.cells (encEv e).toArray 31 (0, 0)) := by rw [hw4]; exact Hb.mk (Hb.h (by repeat (first | assumption | exact Hb.newY _ _ | refine Hb.alloc ?_ | refine Hb.drew ?_ | refine Hb.ext (by assumption) ?_ | exact Hb.setSameL (by first | omega | (simp only [size_alloc, size_setB, size_drew]; omega)) | exact Hb.setSame (by assumption) | refine Hb.set (by first | omega | (simp only [size_alloc, size_setB, size_drew]; omega)) ?_ )))
      have hEw4 : Ext w w4 := by rw [hw4]; exact (by repeat (first | assumption | exact Ext.refl _ | refine Ext.alloc ?_ _ | refine Ext.drew ?_ | refine Ext.setB ?_ (by first | omega | (simp only [size_alloc, size_setB, size_drew]; omega)) _ | refine Ext.trans ?_ (by assumption)))
      clear hw4
      replace hO := hO.keep hK4
      have hz4 := hK4.sz
      have hb4l := hb4.lt
      refine W_region rfl ?_
      refine WO_p (PS_move_ptr rfl) ?_
      refine WO_p (PS_fieldAddr 119 Hvac.runUnderlying31 rfl Hvac.sizeOf29 rfl rfl) ?_
      refine WO_load (.slice _ _ _) Hvac.isAgg29 rfl (Hb.h (by repeat (first | assumption | exact Hb.newY _ _ | refine Hb.alloc ?_ | refine Hb.drew ?_ | refine Hb.ext (by assumption) ?_ | exact Hb.setSameL (by first | omega | (simp only [size_alloc, size_setB, size_drew]; omega)) | exact Hb.setSame (by assumption) | refine Hb.set (by first | omega | (simp only [size_alloc, size_setB, size_drew]; omega)) ?_ ))) (Ce.h (by first | assumption | exact ⟨rfl⟩)) ?_
      refine WO_call Hvac.call56 (by rfl) (Ret.mono (yWordsOfF_spec _ (OmB.ext hO (by repeat (first | assumption | exact Ext.refl _ | refine Ext.alloc ?_ _ | refine Ext.drew ?_ | refine Ext.setB ?_ (by first | omega | (simp only [size_alloc, size_setB, size_drew]; omega)) _ | exact Ext.trans (by assumption) (by assumption) | refine Ext.trans ?_ (by assumption)))) e.hash e.hl (hev.ha.ext (by repeat (first | assumption | exact Ext.refl _ | refine Ext.alloc ?_ _ | refine Ext.drew ?_ | refine Ext.setB ?_ (by first | omega | (simp only [size_alloc, size_setB, size_drew]; omega)) _ | exact Ext.trans (by assumption) (by assumption) | refine Ext.trans ?_ (by assumption)))) (by omega)) ?_)
      rintro _ w22 ⟨hE22, s22, rfl, hP22⟩
      have hz22 := hE22.1
      refine WO_p (PS_nilCheck rfl) ?_
      refine WO_p (PS_fieldAddr 0 Hvac.runUnderlying101 rfl Hvac.sizeOf99 rfl rfl) ?_
      refine WO_p (PS_fieldAddr 59 Hvac.runUnderlying99 rfl Hvac.sizeOf31 rfl rfl) ?_
      refine WO_p (PS_fieldAddr 119 Hvac.runUnderlying31 rfl Hvac.sizeOf29 rfl rfl) ?_
      refine WO_store1 Hvac.sizeOf29 rfl (v := .slice _ _ _) rfl (Hb.h (Hb.ext hE22 hb4)) rfl (by rw [hszE]; decide) rfl ?_
      rw [encYS_eh hev s22]
      refine WO_nil ?_
      refine thn_normal ?_
      refine W_seq ?_
      refine W_seq ?_
      refine W_gen fun w6 hw6 => ?_
      have hK6 : KeepO (fun b => b = b20) v20 w6 := by rw [hw6]; exact KeepO.setB (hK4.extR hE22) (fun _ => rfl) _
      have hb6 : Hb w6 b20 (.cells (encYS (ysN { e with hash := s22 } (none, 0, 0) (none, 0, 0))).toArray 101 (0, 0)) := by rw [hw6]; exact Hb.setSame (Hb.ext hE22 hb4)
      have hEw6 : Ext w w6 := by rw [hw6]; exact Ext.setB (hEw4.trans hE22) (by omega) _
      have hP6 : PL encW32 32 28 w6 s22 (chunk e.hl e.hash.2.1) := by rw [hw6]; exact hP22.keep (keepSO (Ext.refl _) hSo _)
      clear hw6
      have hO6 : OmB w6 := hO20.keep hK6
      have hz6 := hK6.sz
      have hb6l := hb6.lt
      refine W_region rfl ?_
      refine WO_p (PS_move_slice rfl) ?_
      refine WO_p (PS_lenS Hvac.runUnderlying23 rfl) ?_
      refine WO_p (PS_move_int rfl) ?_
      refine WO_nil ?_
      refine thn_normal ?_
      refine W_block ?_
      refine W_loopN (fun m ρ w' => ∃ (i : Nat) (so : Option (Nat × Nat)) (K : List YAc) (tt : SV) (mtY : Nat), i + m = l.length ∧ R2 (AcR w') K ((l.take i).map yacP) ∧ BL encYA 24 104 w6 [] w' so K ∧ NN w' tt mtY ∧ sz mtY ≤ 33 + i ∧ KeepO (fun b => b = b20) w6 w' ∧ Hb w' b20 (.cells (encYS (ysN { e with hash := s22 } (slp so, K.length, slc so) tt)).toArray 101 (0, 0)) ∧ Fr [(6, .pointer (some ⟨b20, 0, none⟩)), (34, .slice p l.length cp), (35, .int .i64 l.length), (36, .int .i64 i)] ρ) l.length ?_ ?_
      · exact ⟨0, none, [], (none, 0, 0), 0, by omega, R2.nil _, BL.nil _ _ _ _ _ _, NN.nil _, by rw [sz_zero]; omega, KeepO.refl _ _, hb6, ⟨rfl, rfl, rfl, rfl, trivial⟩⟩
      intro mL ρL wL hIL
      obtain ⟨i, so, K, tt, mtY, him, hKR, hBL, hNt, hzt, hKL, hCL, hFL⟩ := hIL
      refine W_env _ hFL ?_
      have hzL := hKL.sz
      have hCLl := hCL.lt
      have hOL : OmB wL := hO6.keep hKL
      replace hO := hOL
      have hEwL : Ext w wL := ext_keep hEw6 hKL (fun b e => by omega)
      have hKRl := hKR.len
      rw [List.length_map, List.length_take] at hKRl
      have hszL := encYS_sz (x := (ysN { e with hash := s22 } (slp so, K.length, slc so) tt)) List.length_replicate List.length_replicate (hev.evb s22)
      refine W_seq ?_
      refine W_region rfl ?_
      refine WO_p (PS_lss rfl rfl) ?_
      refine WO_nil ?_
      refine thn_normal ?_
      refine W_seq ?_
      refine W_if rfl (fun hb11 => ?_) (fun hb11 => ?_)
      · have hb11p := hb11.h; try simp only [al_ete, al_dfn, Bool.not_eq_true', Bool.not_eq_false', al_ne, Bool.not_not, al_nn] at hb11p
        obtain ⟨bb, o, r, T, fz, hp, hbb, hrl0⟩ := hin.row.row (by omega)
        dsimp only at hp
        subst hp
        have hiz : i < l.length := by omega
        obtain ⟨x, hx⟩ : ∃ x, l[i]? = some x := ⟨_, List.getElem?_eq_getElem hiz⟩
        have hxm := List.mem_of_getElem? hx
        have hk := hin.ok x hxm
        have hbd := (hrl0.acY hx hk).bd
        have hxw := hrl0.ext hx (k := 0) (n := 55) (by decide) (ac_whole2 hk) (encAc_len hk)
        have hel55 : (encAc x).toArray.size = 55 := by simpa using encAc_len hk
        have hat : AcAt (encAc x).toArray 0 x := by
          have hr1 : RowL encAc 55 0 (encAc x).toArray [x] := ⟨by rw [hel55]; simp, fun i y hy k hk => by
            cases i with
            | zero => simp at hy; subst hy; simp
            | succ i => simp at hy⟩
          exact hr1.acY (i := 0) rfl hk
        have hba : Xt (encAc x).toArray (0 + 21) (0 + 21 + 32) (ic .u8 x.bal) := hat.ba
        have had : Xt (encAc x).toArray (0 + 0) (0 + 0 + 20) (ic .u8 x.addr) := hat.ad
        have hno : Ce (encAc x).toArray (0 + 20) (.int .u64 x.nonce) := hat.no
        have hcd : Ce (encAc x).toArray (0 + 53) (.slice x.code.1 x.code.2.1 x.code.2.2) := hat.cd
        have hso : Ce (encAc x).toArray (0 + 54) (.slice x.sto.1 x.sto.2.1 x.sto.2.2) := hat.so
        generalize hpst : x.sto.1 = pst at hso
        have hadl := hk.ad.1
        have hnob := hk.no
        obtain ⟨hcb, hslx⟩ := wok_acc hwk hx
        have hcl := hk.cd.len
        have hsol := hk.so.len
        have hbbL := hbb.ext hEwL
        have hcAB : AB w (x.code.1, x.code.2.1, x.code.2.2) x.cb := hk.cd.ab hk.cr (hcc x hxm)
        have hzba : sz (bvY x.bal) ≤ 32 := by have := sz_le (bv_lt hk.ba.2); rwa [hk.ba.1] at this
        refine W_skip ?_
        refine thn_normal ?_
        refine W_seq ?_
        refine W_block ?_
        refine W_seq ?_
        refine W_region rfl ?_
        refine WO_p (PS_indexS Hvac.runUnderlying23 Hvac.sizeOf148 rfl rfl (by omega) (by omega)) ?_
        refine WO_loadA _ Hvac.isAgg148 Hvac.sizeOf148 rfl (Hb.h (by repeat (first | assumption | exact Hb.newY _ _ | refine Hb.alloc ?_ | refine Hb.drew ?_ | refine Hb.ext (by assumption) ?_ | exact Hb.setSameL (by first | omega | (simp only [size_alloc, size_setB, size_drew]; omega)) | exact Hb.setSame (by assumption) | refine Hb.set (by first | omega | (simp only [size_alloc, size_setB, size_drew]; omega)) ?_ ))) (by first | omega | assumption | rfl | decide | exact Nat.le_refl _ | (simp only [size_ic, Value.cells]; omega) | (simp [encWs]; done) | (simp; omega) | simp | exact encYA_sz (by assumption) | exact encYT_sz (by assumption) | exact encYM_sz (by assumption)) (Xt.h (by first | assumption | exact Xt.whole rfl rfl | exact Xt.whole rfl (by assumption) | exact Xt.whole rfl (by simp only [size_ic, Value.cells]; omega) | exact ⟨rfl⟩)) ?_
        refine WO_allocG Hvac.zeroValue148 ?_
        intro b8 v8 hg8 hE8 hH8 hl8
        try simp only [size_alloc, size_setB, size_drew] at hg8
        have hzz8 := hE8.1
        try simp only [size_alloc, size_setB, size_drew] at hzz8
        refine WO_storeW Hvac.sizeOf148 rfl (v := .agg (encAc x).toArray) rfl hH8.h rfl hel55 (by rfl) (one_encAc2 x) ?_
        refine WO_nil ?_
        refine thn_normal ?_
        refine W_seqJ (fun ρ w' => ∃ (b9 : Nat) (sn sb sc : SV), Fr [(6, .pointer (some ⟨b20, 0, none⟩)), (8, .pointer (some ⟨b8, 0, none⟩)), (9, .pointer (some ⟨b9, 0, none⟩)), (34, .slice (some ⟨bb, o, none⟩) l.length cp), (35, .int .i64 l.length), (36, .int .i64 i)] ρ ∧ Ext wL w' ∧ wL.heap.size ≤ b9 ∧ b8 ≠ b9 ∧ Hb w' b8 (.cells (encAc x).toArray 148 (0, 0)) ∧ Hb w' b9 (.cells (encYA (YAc.mk x.addr sn sb sc (none, 0, 0))).toArray 104 (0, 0)) ∧ NN w' sn x.nonce.toNat ∧ NN w' sb (bvY x.bal) ∧ PB w' sc x.cb) ?_ ?_
        · skip
          refine W_drawF [false, false, false, false, true, false, false, true, false, false, true, false, true, false] [12] [0, 1, 2, 3, 4, 5, 6, 7, 8, 9, 10, 11, 13] hmix (by kernel_rfl) rfl rfl rfl ?_
          refine F_q (i := 0) rfl (by kernel_rfl) ?_
          refine WH_p (PS_fieldAddr 0 Hvac.runUnderlying148 rfl Hvac.sizeOf25 rfl rfl) rfl ?_
          refine WH_nil ?_
          refine F_q (i := 1) rfl (by kernel_rfl) ?_
          refine WH_loadA _ Hvac.isAgg25 Hvac.sizeOf25 rfl (Hb.h (by repeat (first | assumption | exact Hb.newY _ _ | refine Hb.alloc ?_ | refine Hb.drew ?_ | refine Hb.ext (by assumption) ?_ | exact Hb.setSameL (by first | omega | (simp only [size_alloc, size_setB, size_drew]; omega)) | exact Hb.setSame (by assumption) | refine Hb.set (by first | omega | (simp only [size_alloc, size_setB, size_drew]; omega)) ?_ ))) (by first | omega | assumption | rfl | decide | exact Nat.le_refl _ | (simp only [size_ic, Value.cells]; omega) | (simp [encWs]; done) | (simp; omega) | simp | exact encYA_sz (by assumption) | exact encYT_sz (by assumption) | exact encYM_sz (by assumption)) (Xt.h (by first | assumption | exact Xt.whole rfl rfl | exact Xt.whole rfl (by assumption) | exact Xt.whole rfl (by simp only [size_ic, Value.cells]; omega) | exact ⟨rfl⟩)) ?_
          refine WH_nil ?_
          refine F_q (i := 2) rfl (by kernel_rfl) ?_
          refine WH_p (PS_fieldAddr 20 Hvac.runUnderlying148 rfl Hvac.sizeOf26 rfl rfl) rfl ?_
          refine WH_nil ?_
          refine F_q (i := 3) rfl (by kernel_rfl) ?_
          refine WH_load (.int _ _) Hvac.isAgg26 rfl (Hb.h (by repeat (first | assumption | exact Hb.newY _ _ | refine Hb.alloc ?_ | refine Hb.drew ?_ | refine Hb.ext (by assumption) ?_ | exact Hb.setSameL (by first | omega | (simp only [size_alloc, size_setB, size_drew]; omega)) | exact Hb.setSame (by assumption) | refine Hb.set (by first | omega | (simp only [size_alloc, size_setB, size_drew]; omega)) ?_ ))) (Ce.h (by first | assumption | exact ⟨rfl⟩)) ?_
          refine WH_nil ?_
          refine F_fork1 (i := 4) rfl rfl ?_ ?_
          · refine WH_call Hvac.call19 (by rfl) (Ret.mono (nNum_spec (OmB.ext hO (by repeat (first | assumption | exact Ext.refl _ | refine Ext.alloc ?_ _ | refine Ext.drew ?_ | refine Ext.setB ?_ (by first | omega | (simp only [size_alloc, size_setB, size_drew]; omega)) _ | exact Ext.trans (by assumption) (by assumption) | refine Ext.trans ?_ (by assumption)))) ⟨by omega, by omega⟩) ?_)
            rintro _ w19_11 ⟨hE19_11, s44, rfl, hN44, hs44⟩
            refine ⟨fun _ => (by repeat (first | assumption | exact Ext.refl _ | refine Ext.alloc ?_ _ | refine Ext.drew ?_ | refine Ext.setB ?_ (by first | omega | (simp only [size_alloc, size_setB, size_drew]; omega)) _ | exact Ext.trans (by assumption) (by assumption) | refine Ext.trans ?_ (by assumption))), ?_⟩
            have hz19_11 := hE19_11.1
            try simp only [size_alloc, size_setB, size_drew] at hz19_11
            refine WH_nil ?_
            refine F_q (i := 5) rfl (by kernel_rfl) ?_
            refine WH_p (PS_fieldAddr 21 Hvac.runUnderlying148 rfl Hvac.sizeOf28 rfl rfl) rfl ?_
            refine WH_nil ?_
            refine F_q (i := 6) rfl (by kernel_rfl) ?_
            refine WH_p (PS_slA Hvac.runUnderlying28 Hvac.sizeOf5 rfl (by omega)) rfl ?_
            refine WH_nil ?_
            refine F_fork1 (i := 7) rfl rfl ?_ ?_
            · refine WH_call Hvac.call29 (by rfl) (Ret.mono (nBE_spec (OmB.ext hO (by repeat (first | assumption | exact Ext.refl _ | refine Ext.alloc ?_ _ | refine Ext.drew ?_ | refine Ext.setB ?_ (by first | omega | (simp only [size_alloc, size_setB, size_drew]; omega)) _ | exact Ext.trans (by assumption) (by assumption) | refine Ext.trans ?_ (by assumption)))) (AB.xt (Hb.mk (Hb.h (by repeat (first | assumption | exact Hb.newY _ _ | refine Hb.alloc ?_ | refine Hb.drew ?_ | refine Hb.ext (by assumption) ?_ | exact Hb.setSameL (by first | omega | (simp only [size_alloc, size_setB, size_drew]; omega)) | exact Hb.setSame (by assumption) | refine Hb.set (by first | omega | (simp only [size_alloc, size_setB, size_drew]; omega)) ?_ )))) hba (by omega) hk.ba.1 hk.ba.2) (by omega)) ?_)
              rintro _ w29_12 ⟨hE29_12, s47, rfl, hN47⟩
              refine ⟨fun _ => (by repeat (first | assumption | exact Ext.refl _ | refine Ext.alloc ?_ _ | refine Ext.drew ?_ | refine Ext.setB ?_ (by first | omega | (simp only [size_alloc, size_setB, size_drew]; omega)) _ | exact Ext.trans (by assumption) (by assumption) | refine Ext.trans ?_ (by assumption))), ?_⟩
              have hz29_12 := hE29_12.1
              try simp only [size_alloc, size_setB, size_drew] at hz29_12
              refine WH_nil ?_
              refine F_q (i := 8) rfl (by kernel_rfl) ?_
              refine WH_p (PS_fieldAddr 53 Hvac.runUnderlying148 rfl Hvac.sizeOf32 rfl rfl) rfl ?_
              refine WH_nil ?_
              refine F_q (i := 9) rfl (by kernel_rfl) ?_
              refine WH_load (.slice _ _ _) Hvac.isAgg32 rfl (Hb.h (by repeat (first | assumption | exact Hb.newY _ _ | refine Hb.alloc ?_ | refine Hb.drew ?_ | refine Hb.ext (by assumption) ?_ | exact Hb.setSameL (by first | omega | (simp only [size_alloc, size_setB, size_drew]; omega)) | exact Hb.setSame (by assumption) | refine Hb.set (by first | omega | (simp only [size_alloc, size_setB, size_drew]; omega)) ?_ ))) (Ce.h (by first | assumption | exact ⟨rfl⟩)) ?_
              refine WH_nil ?_
              refine F_fork1 (i := 10) rfl rfl ?_ ?_
              · refine WH_call Hvac.call31 (by rfl) (Ret.mono (yBytesOf_spec _ (OmB.ext hO (by repeat (first | assumption | exact Ext.refl _ | refine Ext.alloc ?_ _ | refine Ext.drew ?_ | refine Ext.setB ?_ (by first | omega | (simp only [size_alloc, size_setB, size_drew]; omega)) _ | exact Ext.trans (by assumption) (by assumption) | refine Ext.trans ?_ (by assumption)))) _ _ _ _ (AB.ext hcAB (hEwL.trans (by repeat (first | assumption | exact Ext.refl _ | refine Ext.alloc ?_ _ | refine Ext.drew ?_ | refine Ext.setB ?_ (by first | omega | (simp only [size_alloc, size_setB, size_drew]; omega)) _ | exact Ext.trans (by assumption) (by assumption) | refine Ext.trans ?_ (by assumption))))) (by omega)) ?_)
                rintro _ w31_13 ⟨hE31_13, s50, rfl, hN50⟩
                refine ⟨fun _ => (by repeat (first | assumption | exact Ext.refl _ | refine Ext.alloc ?_ _ | refine Ext.drew ?_ | refine Ext.setB ?_ (by first | omega | (simp only [size_alloc, size_setB, size_drew]; omega)) _ | exact Ext.trans (by assumption) (by assumption) | refine Ext.trans ?_ (by assumption))), ?_⟩
                have hz31_13 := hE31_13.1
                try simp only [size_alloc, size_setB, size_drew] at hz31_13
                refine WH_nil ?_
                refine F_q (i := 11) rfl (by kernel_rfl) ?_
                refine WH_p (PS_b104_0123 (A := x.addr) rfl hadl rfl rfl rfl) rfl ?_
                have hsz9 : (encYA ⟨x.addr, s44, s47, s50, (none, 0, 0)⟩).toArray.size = 24 := encYA_sz hadl
                have hone9 := one_YA2 ⟨x.addr, s44, s47, s50, (none, 0, 0)⟩
                refine WH_nil ?_
                refine F_fork1B (i := 13) (by kernel_rfl) rfl ?_
                · refine WH_allocG Hvac.zeroValue104 ?_
                  intro b9 v9 hg9 hE9 hH9 hl9
                  try simp only [size_alloc, size_setB, size_drew] at hg9
                  have hzz9 := hE9.1
                  try simp only [size_alloc, size_setB, size_drew] at hzz9
                  replace hH9 : Hb v9 b9 (.cells ((encYA (ac0 (List.replicate 20 0))).toArray) 104 (0, 0)) := hH9
                  refine ⟨fun _ => (by repeat (first | assumption | exact Ext.refl _ | refine Ext.alloc ?_ _ | refine Ext.drew ?_ | refine Ext.setB ?_ (by first | omega | (simp only [size_alloc, size_setB, size_drew]; omega)) _ | exact Ext.trans (by assumption) (by assumption) | refine Ext.trans ?_ (by assumption))), ?_⟩
                  refine WH_nil ?_
                  refine F_q (i := 13) rfl (by kernel_rfl) ?_
                  first | refine WH_storeW Hvac.sizeOf104 rfl (v := .agg _) rfl (Hb.h (by repeat (first | assumption | exact Hb.newY _ _ | refine Hb.alloc ?_ | refine Hb.drew ?_ | refine Hb.ext (by assumption) ?_ | exact Hb.setSameL (by first | omega | (simp only [size_alloc, size_setB, size_drew]; omega)) | exact Hb.setSame (by assumption) | refine Hb.set (by first | omega | (simp only [size_alloc, size_setB, size_drew]; omega)) ?_ ))) rfl (by first | omega | assumption | rfl | decide | exact Nat.le_refl _ | (simp only [size_ic, Value.cells]; omega) | (simp [encWs]; done) | (simp; omega) | simp | exact encYA_sz (by assumption) | exact encYT_sz (by assumption) | exact encYM_sz (by assumption)) (by first | omega | assumption | rfl | decide | exact Nat.le_refl _ | (simp only [size_ic, Value.cells]; omega) | (simp [encWs]; done) | (simp; omega) | simp | exact encYA_sz (by assumption) | exact encYT_sz (by assumption) | exact encYM_sz (by assumption)) (by first | exact oneCell_ic | assumption | exact one_Ws2 _ | exact one_YA2 _ | exact one_YSl2 _ | exact one_YM2 _ | exact one_YT2 _ | exact one_L2 _) (fun h => by cases h) ?_ | refine WH_store Hvac.sizeOf104 rfl (v := .agg _) rfl (Hb.h (by repeat (first | assumption | exact Hb.newY _ _ | refine Hb.alloc ?_ | refine Hb.drew ?_ | refine Hb.ext (by assumption) ?_ | exact Hb.setSameL (by first | omega | (simp only [size_alloc, size_setB, size_drew]; omega)) | exact Hb.setSame (by assumption) | refine Hb.set (by first | omega | (simp only [size_alloc, size_setB, size_drew]; omega)) ?_ ))) (by first | omega | assumption | rfl | decide | exact Nat.le_refl _ | (simp only [size_ic, Value.cells]; omega) | (simp [encWs]; done) | (simp; omega) | simp | exact encYA_sz (by assumption) | exact encYT_sz (by assumption) | exact encYM_sz (by assumption)) (by first | omega | assumption | rfl | decide | exact Nat.le_refl _ | (simp only [size_ic, Value.cells]; omega) | (simp [encWs]; done) | (simp; omega) | simp | exact encYA_sz (by assumption) | exact encYT_sz (by assumption) | exact encYM_sz (by assumption)) (by first | exact oneCell_ic | assumption | exact one_Ws2 _ | exact one_YA2 _ | exact one_YSl2 _ | exact one_YM2 _ | exact one_YT2 _ | exact one_L2 _) (fun h => by cases h) ?_
                  refine WH_nil ?_
                  refine F_end ?_
                  refine thn_normal ?_
                  exact ⟨b9, s44, s47, s50, ⟨rfl, rfl, rfl, rfl, rfl, rfl, trivial⟩, (by repeat (first | assumption | exact Ext.refl _ | refine Ext.alloc ?_ _ | refine Ext.drew ?_ | refine Ext.setB ?_ (by first | omega | (simp only [size_alloc, size_setB, size_drew]; omega)) _ | exact Ext.trans (by assumption) (by assumption) | refine Ext.trans ?_ (by assumption))), by omega, by omega, Hb.mk (Hb.h (by repeat (first | assumption | exact Hb.newY _ _ | refine Hb.alloc ?_ | refine Hb.drew ?_ | refine Hb.ext (by assumption) ?_ | exact Hb.setSameL (by first | omega | (simp only [size_alloc, size_setB, size_drew]; omega)) | exact Hb.setSame (by assumption) | refine Hb.set (by first | omega | (simp only [size_alloc, size_setB, size_drew]; omega)) ?_ ))), Hb.mk (Hb.h (by repeat (first | assumption | exact Hb.newY _ _ | refine Hb.alloc ?_ | refine Hb.drew ?_ | refine Hb.ext (by assumption) ?_ | exact Hb.setSameL (by first | omega | (simp only [size_alloc, size_setB, size_drew]; omega)) | exact Hb.setSame (by assumption) | refine Hb.set (by first | omega | (simp only [size_alloc, size_setB, size_drew]; omega)) ?_ ))), (by first | (refine NN.ext hN44 ?_; (repeat (first | assumption | exact Ext.refl _ | refine Ext.alloc ?_ _ | refine Ext.drew ?_ | refine Ext.setB ?_ (by first | omega | (simp only [size_alloc, size_setB, size_drew]; omega)) _ | refine Ext.trans ?_ (by assumption))); done) | exact NN.b104 hN44 (Hb.mk (Hb.h (by repeat (first | assumption | exact Hb.newY _ _ | refine Hb.alloc ?_ | refine Hb.drew ?_ | refine Hb.ext (by assumption) ?_ | exact Hb.setSameL (by first | omega | (simp only [size_alloc, size_setB, size_drew]; omega)) | exact Hb.setSame (by assumption) | refine Hb.set (by first | omega | (simp only [size_alloc, size_setB, size_drew]; omega)) ?_ )))) | exact NN.b104 (NN.ext hN44 (by repeat (first | assumption | exact Ext.refl _ | refine Ext.alloc ?_ _ | refine Ext.drew ?_ | refine Ext.setB ?_ (by first | omega | (simp only [size_alloc, size_setB, size_drew]; omega)) _ | exact Ext.trans (by assumption) (by assumption) | refine Ext.trans ?_ (by assumption)))) (Hb.mk (Hb.h (by repeat (first | assumption | exact Hb.newY _ _ | refine Hb.alloc ?_ | refine Hb.drew ?_ | refine Hb.ext (by assumption) ?_ | exact Hb.setSameL (by first | omega | (simp only [size_alloc, size_setB, size_drew]; omega)) | exact Hb.setSame (by assumption) | refine Hb.set (by first | omega | (simp only [size_alloc, size_setB, size_drew]; omega)) ?_ ))))), (by first | (refine NN.ext hN47 ?_; (repeat (first | assumption | exact Ext.refl _ | refine Ext.alloc ?_ _ | refine Ext.drew ?_ | refine Ext.setB ?_ (by first | omega | (simp only [size_alloc, size_setB, size_drew]; omega)) _ | refine Ext.trans ?_ (by assumption))); done) | exact NN.b104 hN47 (Hb.mk (Hb.h (by repeat (first | assumption | exact Hb.newY _ _ | refine Hb.alloc ?_ | refine Hb.drew ?_ | refine Hb.ext (by assumption) ?_ | exact Hb.setSameL (by first | omega | (simp only [size_alloc, size_setB, size_drew]; omega)) | exact Hb.setSame (by assumption) | refine Hb.set (by first | omega | (simp only [size_alloc, size_setB, size_drew]; omega)) ?_ )))) | exact NN.b104 (NN.ext hN47 (by repeat (first | assumption | exact Ext.refl _ | refine Ext.alloc ?_ _ | refine Ext.drew ?_ | refine Ext.setB ?_ (by first | omega | (simp only [size_alloc, size_setB, size_drew]; omega)) _ | exact Ext.trans (by assumption) (by assumption) | refine Ext.trans ?_ (by assumption)))) (Hb.mk (Hb.h (by repeat (first | assumption | exact Hb.newY _ _ | refine Hb.alloc ?_ | refine Hb.drew ?_ | refine Hb.ext (by assumption) ?_ | exact Hb.setSameL (by first | omega | (simp only [size_alloc, size_setB, size_drew]; omega)) | exact Hb.setSame (by assumption) | refine Hb.set (by first | omega | (simp only [size_alloc, size_setB, size_drew]; omega)) ?_ ))))), (by first | (refine PB.ext hN50 ?_; (repeat (first | assumption | exact Ext.refl _ | refine Ext.alloc ?_ _ | refine Ext.drew ?_ | refine Ext.setB ?_ (by first | omega | (simp only [size_alloc, size_setB, size_drew]; omega)) _ | refine Ext.trans ?_ (by assumption))); done) | exact PB.b104 hN50 (Hb.mk (Hb.h (by repeat (first | assumption | exact Hb.newY _ _ | refine Hb.alloc ?_ | refine Hb.drew ?_ | refine Hb.ext (by assumption) ?_ | exact Hb.setSameL (by first | omega | (simp only [size_alloc, size_setB, size_drew]; omega)) | exact Hb.setSame (by assumption) | refine Hb.set (by first | omega | (simp only [size_alloc, size_setB, size_drew]; omega)) ?_ )))) | exact PB.b104 (PB.ext hN50 (by repeat (first | assumption | exact Ext.refl _ | refine Ext.alloc ?_ _ | refine Ext.drew ?_ | refine Ext.setB ?_ (by first | omega | (simp only [size_alloc, size_setB, size_drew]; omega)) _ | exact Ext.trans (by assumption) (by assumption) | refine Ext.trans ?_ (by assumption)))) (Hb.mk (Hb.h (by repeat (first | assumption | exact Hb.newY _ _ | refine Hb.alloc ?_ | refine Hb.drew ?_ | refine Hb.ext (by assumption) ?_ | exact Hb.setSameL (by first | omega | (simp only [size_alloc, size_setB, size_drew]; omega)) | exact Hb.setSame (by assumption) | refine Hb.set (by first | omega | (simp only [size_alloc, size_setB, size_drew]; omega)) ?_ )))))⟩
              · refine WH_allocG Hvac.zeroValue104 ?_
                intro b9 v9 hg9 hE9 hH9 hl9
                try simp only [size_alloc, size_setB, size_drew] at hg9
                have hzz9 := hE9.1
                try simp only [size_alloc, size_setB, size_drew] at hzz9
                replace hH9 : Hb v9 b9 (.cells ((encYA (ac0 (List.replicate 20 0))).toArray) 104 (0, 0)) := hH9
                refine ⟨fun _ => (by repeat (first | assumption | exact Ext.refl _ | refine Ext.alloc ?_ _ | refine Ext.drew ?_ | refine Ext.setB ?_ (by first | omega | (simp only [size_alloc, size_setB, size_drew]; omega)) _ | exact Ext.trans (by assumption) (by assumption) | refine Ext.trans ?_ (by assumption))), ?_⟩
                refine WH_nil ?_
                refine F_q (i := 10) rfl (by kernel_rfl) ?_
                refine WH_call Hvac.call31 (by rfl) (Ret.mono (yBytesOf_spec _ (OmB.ext hO (by repeat (first | assumption | exact Ext.refl _ | refine Ext.alloc ?_ _ | refine Ext.drew ?_ | refine Ext.setB ?_ (by first | omega | (simp only [size_alloc, size_setB, size_drew]; omega)) _ | exact Ext.trans (by assumption) (by assumption) | refine Ext.trans ?_ (by assumption)))) _ _ _ _ (AB.ext hcAB (hEwL.trans (by repeat (first | assumption | exact Ext.refl _ | refine Ext.alloc ?_ _ | refine Ext.drew ?_ | refine Ext.setB ?_ (by first | omega | (simp only [size_alloc, size_setB, size_drew]; omega)) _ | exact Ext.trans (by assumption) (by assumption) | refine Ext.trans ?_ (by assumption))))) (by omega)) ?_)
                rintro _ w31_14 ⟨hE31_14, s50, rfl, hN50⟩
                refine ⟨fun _ => (by repeat (first | assumption | exact Ext.refl _ | refine Ext.alloc ?_ _ | refine Ext.drew ?_ | refine Ext.setB ?_ (by first | omega | (simp only [size_alloc, size_setB, size_drew]; omega)) _ | exact Ext.trans (by assumption) (by assumption) | refine Ext.trans ?_ (by assumption))), ?_⟩
                have hz31_14 := hE31_14.1
                try simp only [size_alloc, size_setB, size_drew] at hz31_14
                refine WH_nil ?_
                refine F_q (i := 11) rfl (by kernel_rfl) ?_
                refine WH_p (PS_b104_0123 (A := x.addr) rfl hadl rfl rfl rfl) rfl ?_
                have hsz9 : (encYA ⟨x.addr, s44, s47, s50, (none, 0, 0)⟩).toArray.size = 24 := encYA_sz hadl
                have hone9 := one_YA2 ⟨x.addr, s44, s47, s50, (none, 0, 0)⟩
                refine WH_nil ?_
                refine F_q (i := 13) rfl (by kernel_rfl) ?_
                first | refine WH_storeW Hvac.sizeOf104 rfl (v := .agg _) rfl (Hb.h (by repeat (first | assumption | exact Hb.newY _ _ | refine Hb.alloc ?_ | refine Hb.drew ?_ | refine Hb.ext (by assumption) ?_ | exact Hb.setSameL (by first | omega | (simp only [size_alloc, size_setB, size_drew]; omega)) | exact Hb.setSame (by assumption) | refine Hb.set (by first | omega | (simp only [size_alloc, size_setB, size_drew]; omega)) ?_ ))) rfl (by first | omega | assumption | rfl | decide | exact Nat.le_refl _ | (simp only [size_ic, Value.cells]; omega) | (simp [encWs]; done) | (simp; omega) | simp | exact encYA_sz (by assumption) | exact encYT_sz (by assumption) | exact encYM_sz (by assumption)) (by first | omega | assumption | rfl | decide | exact Nat.le_refl _ | (simp only [size_ic, Value.cells]; omega) | (simp [encWs]; done) | (simp; omega) | simp | exact encYA_sz (by assumption) | exact encYT_sz (by assumption) | exact encYM_sz (by assumption)) (by first | exact oneCell_ic | assumption | exact one_Ws2 _ | exact one_YA2 _ | exact one_YSl2 _ | exact one_YM2 _ | exact one_YT2 _ | exact one_L2 _) (fun h => by cases h) ?_ | refine WH_store Hvac.sizeOf104 rfl (v := .agg _) rfl (Hb.h (by repeat (first | assumption | exact Hb.newY _ _ | refine Hb.alloc ?_ | refine Hb.drew ?_ | refine Hb.ext (by assumption) ?_ | exact Hb.setSameL (by first | omega | (simp only [size_alloc, size_setB, size_drew]; omega)) | exact Hb.setSame (by assumption) | refine Hb.set (by first | omega | (simp only [size_alloc, size_setB, size_drew]; omega)) ?_ ))) (by first | omega | assumption | rfl | decide | exact Nat.le_refl _ | (simp only [size_ic, Value.cells]; omega) | (simp [encWs]; done) | (simp; omega) | simp | exact encYA_sz (by assumption) | exact encYT_sz (by assumption) | exact encYM_sz (by assumption)) (by first | omega | assumption | rfl | decide | exact Nat.le_refl _ | (simp only [size_ic, Value.cells]; omega) | (simp [encWs]; done) | (simp; omega) | simp | exact encYA_sz (by assumption) | exact encYT_sz (by assumption) | exact encYM_sz (by assumption)) (by first | exact oneCell_ic | assumption | exact one_Ws2 _ | exact one_YA2 _ | exact one_YSl2 _ | exact one_YM2 _ | exact one_YT2 _ | exact one_L2 _) (fun h => by cases h) ?_
                refine WH_nil ?_
                refine F_end ?_
                refine thn_normal ?_
                exact ⟨b9, s44, s47, s50, ⟨rfl, rfl, rfl, rfl, rfl, rfl, trivial⟩, (by repeat (first | assumption | exact Ext.refl _ | refine Ext.alloc ?_ _ | refine Ext.drew ?_ | refine Ext.setB ?_ (by first | omega | (simp only [size_alloc, size_setB, size_drew]; omega)) _ | exact Ext.trans (by assumption) (by assumption) | refine Ext.trans ?_ (by assumption))), by omega, by omega, Hb.mk (Hb.h (by repeat (first | assumption | exact Hb.newY _ _ | refine Hb.alloc ?_ | refine Hb.drew ?_ | refine Hb.ext (by assumption) ?_ | exact Hb.setSameL (by first | omega | (simp only [size_alloc, size_setB, size_drew]; omega)) | exact Hb.setSame (by assumption) | refine Hb.set (by first | omega | (simp only [size_alloc, size_setB, size_drew]; omega)) ?_ ))), Hb.mk (Hb.h (by repeat (first | assumption | exact Hb.newY _ _ | refine Hb.alloc ?_ | refine Hb.drew ?_ | refine Hb.ext (by assumption) ?_ | exact Hb.setSameL (by first | omega | (simp only [size_alloc, size_setB, size_drew]; omega)) | exact Hb.setSame (by assumption) | refine Hb.set (by first | omega | (simp only [size_alloc, size_setB, size_drew]; omega)) ?_ ))), (by first | (refine NN.ext hN44 ?_; (repeat (first | assumption | exact Ext.refl _ | refine Ext.alloc ?_ _ | refine Ext.drew ?_ | refine Ext.setB ?_ (by first | omega | (simp only [size_alloc, size_setB, size_drew]; omega)) _ | refine Ext.trans ?_ (by assumption))); done) | exact NN.b104 hN44 (Hb.mk (Hb.h (by repeat (first | assumption | exact Hb.newY _ _ | refine Hb.alloc ?_ | refine Hb.drew ?_ | refine Hb.ext (by assumption) ?_ | exact Hb.setSameL (by first | omega | (simp only [size_alloc, size_setB, size_drew]; omega)) | exact Hb.setSame (by assumption) | refine Hb.set (by first | omega | (simp only [size_alloc, size_setB, size_drew]; omega)) ?_ )))) | exact NN.b104 (NN.ext hN44 (by repeat (first | assumption | exact Ext.refl _ | refine Ext.alloc ?_ _ | refine Ext.drew ?_ | refine Ext.setB ?_ (by first | omega | (simp only [size_alloc, size_setB, size_drew]; omega)) _ | exact Ext.trans (by assumption) (by assumption) | refine Ext.trans ?_ (by assumption)))) (Hb.mk (Hb.h (by repeat (first | assumption | exact Hb.newY _ _ | refine Hb.alloc ?_ | refine Hb.drew ?_ | refine Hb.ext (by assumption) ?_ | exact Hb.setSameL (by first | omega | (simp only [size_alloc, size_setB, size_drew]; omega)) | exact Hb.setSame (by assumption) | refine Hb.set (by first | omega | (simp only [size_alloc, size_setB, size_drew]; omega)) ?_ ))))), (by first | (refine NN.ext hN47 ?_; (repeat (first | assumption | exact Ext.refl _ | refine Ext.alloc ?_ _ | refine Ext.drew ?_ | refine Ext.setB ?_ (by first | omega | (simp only [size_alloc, size_setB, size_drew]; omega)) _ | refine Ext.trans ?_ (by assumption))); done) | exact NN.b104 hN47 (Hb.mk (Hb.h (by repeat (first | assumption | exact Hb.newY _ _ | refine Hb.alloc ?_ | refine Hb.drew ?_ | refine Hb.ext (by assumption) ?_ | exact Hb.setSameL (by first | omega | (simp only [size_alloc, size_setB, size_drew]; omega)) | exact Hb.setSame (by assumption) | refine Hb.set (by first | omega | (simp only [size_alloc, size_setB, size_drew]; omega)) ?_ )))) | exact NN.b104 (NN.ext hN47 (by repeat (first | assumption | exact Ext.refl _ | refine Ext.alloc ?_ _ | refine Ext.drew ?_ | refine Ext.setB ?_ (by first | omega | (simp only [size_alloc, size_setB, size_drew]; omega)) _ | exact Ext.trans (by assumption) (by assumption) | refine Ext.trans ?_ (by assumption)))) (Hb.mk (Hb.h (by repeat (first | assumption | exact Hb.newY _ _ | refine Hb.alloc ?_ | refine Hb.drew ?_ | refine Hb.ext (by assumption) ?_ | exact Hb.setSameL (by first | omega | (simp only [size_alloc, size_setB, size_drew]; omega)) | exact Hb.setSame (by assumption) | refine Hb.set (by first | omega | (simp only [size_alloc, size_setB, size_drew]; omega)) ?_ ))))), (by first | (refine PB.ext hN50 ?_; (repeat (first | assumption | exact Ext.refl _ | refine Ext.alloc ?_ _ | refine Ext.drew ?_ | refine Ext.setB ?_ (by first | omega | (simp only [size_alloc, size_setB, size_drew]; omega)) _ | refine Ext.trans ?_ (by assumption))); done) | exact PB.b104 hN50 (Hb.mk (Hb.h (by repeat (first | assumption | exact Hb.newY _ _ | refine Hb.alloc ?_ | refine Hb.drew ?_ | refine Hb.ext (by assumption) ?_ | exact Hb.setSameL (by first | omega | (simp only [size_alloc, size_setB, size_drew]; omega)) | exact Hb.setSame (by assumption) | refine Hb.set (by first | omega | (simp only [size_alloc, size_setB, size_drew]; omega)) ?_ )))) | exact PB.b104 (PB.ext hN50 (by repeat (first | assumption | exact Ext.refl _ | refine Ext.alloc ?_ _ | refine Ext.drew ?_ | refine Ext.setB ?_ (by first | omega | (simp only [size_alloc, size_setB, size_drew]; omega)) _ | exact Ext.trans (by assumption) (by assumption) | refine Ext.trans ?_ (by assumption)))) (Hb.mk (Hb.h (by repeat (first | assumption | exact Hb.newY _ _ | refine Hb.alloc ?_ | refine Hb.drew ?_ | refine Hb.ext (by assumption) ?_ | exact Hb.setSameL (by first | omega | (simp only [size_alloc, size_setB, size_drew]; omega)) | exact Hb.setSame (by assumption) | refine Hb.set (by first | omega | (simp only [size_alloc, size_setB, size_drew]; omega)) ?_ )))))⟩
            · refine WH_allocG Hvac.zeroValue104 ?_
              intro b9 v9 hg9 hE9 hH9 hl9
              try simp only [size_alloc, size_setB, size_drew] at hg9
              have hzz9 := hE9.1
              try simp only [size_alloc, size_setB, size_drew] at hzz9
              replace hH9 : Hb v9 b9 (.cells ((encYA (ac0 (List.replicate 20 0))).toArray) 104 (0, 0)) := hH9
              refine ⟨fun _ => (by repeat (first | assumption | exact Ext.refl _ | refine Ext.alloc ?_ _ | refine Ext.drew ?_ | refine Ext.setB ?_ (by first | omega | (simp only [size_alloc, size_setB, size_drew]; omega)) _ | exact Ext.trans (by assumption) (by assumption) | refine Ext.trans ?_ (by assumption))), ?_⟩
              refine WH_nil ?_
              refine F_q (i := 7) rfl (by kernel_rfl) ?_
              refine WH_call Hvac.call29 (by rfl) (Ret.mono (nBE_spec (OmB.ext hO (by repeat (first | assumption | exact Ext.refl _ | refine Ext.alloc ?_ _ | refine Ext.drew ?_ | refine Ext.setB ?_ (by first | omega | (simp only [size_alloc, size_setB, size_drew]; omega)) _ | exact Ext.trans (by assumption) (by assumption) | refine Ext.trans ?_ (by assumption)))) (AB.xt (Hb.mk (Hb.h (by repeat (first | assumption | exact Hb.newY _ _ | refine Hb.alloc ?_ | refine Hb.drew ?_ | refine Hb.ext (by assumption) ?_ | exact Hb.setSameL (by first | omega | (simp only [size_alloc, size_setB, size_drew]; omega)) | exact Hb.setSame (by assumption) | refine Hb.set (by first | omega | (simp only [size_alloc, size_setB, size_drew]; omega)) ?_ )))) hba (by omega) hk.ba.1 hk.ba.2) (by omega)) ?_)
              rintro _ w29_15 ⟨hE29_15, s47, rfl, hN47⟩
              refine ⟨fun _ => (by repeat (first | assumption | exact Ext.refl _ | refine Ext.alloc ?_ _ | refine Ext.drew ?_ | refine Ext.setB ?_ (by first | omega | (simp only [size_alloc, size_setB, size_drew]; omega)) _ | exact Ext.trans (by assumption) (by assumption) | refine Ext.trans ?_ (by assumption))), ?_⟩
              have hz29_15 := hE29_15.1
              try simp only [size_alloc, size_setB, size_drew] at hz29_15
              refine WH_nil ?_
              refine F_q (i := 8) rfl (by kernel_rfl) ?_
              refine WH_p (PS_fieldAddr 53 Hvac.runUnderlying148 rfl Hvac.sizeOf32 rfl rfl) rfl ?_
              refine WH_nil ?_
              refine F_q (i := 9) rfl (by kernel_rfl) ?_
              refine WH_load (.slice _ _ _) Hvac.isAgg32 rfl (Hb.h (by repeat (first | assumption | exact Hb.newY _ _ | refine Hb.alloc ?_ | refine Hb.drew ?_ | refine Hb.ext (by assumption) ?_ | exact Hb.setSameL (by first | omega | (simp only [size_alloc, size_setB, size_drew]; omega)) | exact Hb.setSame (by assumption) | refine Hb.set (by first | omega | (simp only [size_alloc, size_setB, size_drew]; omega)) ?_ ))) (Ce.h (by first | assumption | exact ⟨rfl⟩)) ?_
              refine WH_nil ?_
              refine F_q (i := 10) rfl (by kernel_rfl) ?_
              refine WH_call Hvac.call31 (by rfl) (Ret.mono (yBytesOf_spec _ (OmB.ext hO (by repeat (first | assumption | exact Ext.refl _ | refine Ext.alloc ?_ _ | refine Ext.drew ?_ | refine Ext.setB ?_ (by first | omega | (simp only [size_alloc, size_setB, size_drew]; omega)) _ | exact Ext.trans (by assumption) (by assumption) | refine Ext.trans ?_ (by assumption)))) _ _ _ _ (AB.ext hcAB (hEwL.trans (by repeat (first | assumption | exact Ext.refl _ | refine Ext.alloc ?_ _ | refine Ext.drew ?_ | refine Ext.setB ?_ (by first | omega | (simp only [size_alloc, size_setB, size_drew]; omega)) _ | exact Ext.trans (by assumption) (by assumption) | refine Ext.trans ?_ (by assumption))))) (by omega)) ?_)
              rintro _ w31_16 ⟨hE31_16, s50, rfl, hN50⟩
              refine ⟨fun _ => (by repeat (first | assumption | exact Ext.refl _ | refine Ext.alloc ?_ _ | refine Ext.drew ?_ | refine Ext.setB ?_ (by first | omega | (simp only [size_alloc, size_setB, size_drew]; omega)) _ | exact Ext.trans (by assumption) (by assumption) | refine Ext.trans ?_ (by assumption))), ?_⟩
              have hz31_16 := hE31_16.1
              try simp only [size_alloc, size_setB, size_drew] at hz31_16
              refine WH_nil ?_
              refine F_q (i := 11) rfl (by kernel_rfl) ?_
              refine WH_p (PS_b104_0123 (A := x.addr) rfl hadl rfl rfl rfl) rfl ?_
              have hsz9 : (encYA ⟨x.addr, s44, s47, s50, (none, 0, 0)⟩).toArray.size = 24 := encYA_sz hadl
              have hone9 := one_YA2 ⟨x.addr, s44, s47, s50, (none, 0, 0)⟩
              refine WH_nil ?_
              refine F_q (i := 13) rfl (by kernel_rfl) ?_
              first | refine WH_storeW Hvac.sizeOf104 rfl (v := .agg _) rfl (Hb.h (by repeat (first | assumption | exact Hb.newY _ _ | refine Hb.alloc ?_ | refine Hb.drew ?_ | refine Hb.ext (by assumption) ?_ | exact Hb.setSameL (by first | omega | (simp only [size_alloc, size_setB, size_drew]; omega)) | exact Hb.setSame (by assumption) | refine Hb.set (by first | omega | (simp only [size_alloc, size_setB, size_drew]; omega)) ?_ ))) rfl (by first | omega | assumption | rfl | decide | exact Nat.le_refl _ | (simp only [size_ic, Value.cells]; omega) | (simp [encWs]; done) | (simp; omega) | simp | exact encYA_sz (by assumption) | exact encYT_sz (by assumption) | exact encYM_sz (by assumption)) (by first | omega | assumption | rfl | decide | exact Nat.le_refl _ | (simp only [size_ic, Value.cells]; omega) | (simp [encWs]; done) | (simp; omega) | simp | exact encYA_sz (by assumption) | exact encYT_sz (by assumption) | exact encYM_sz (by assumption)) (by first | exact oneCell_ic | assumption | exact one_Ws2 _ | exact one_YA2 _ | exact one_YSl2 _ | exact one_YM2 _ | exact one_YT2 _ | exact one_L2 _) (fun h => by cases h) ?_ | refine WH_store Hvac.sizeOf104 rfl (v := .agg _) rfl (Hb.h (by repeat (first | assumption | exact Hb.newY _ _ | refine Hb.alloc ?_ | refine Hb.drew ?_ | refine Hb.ext (by assumption) ?_ | exact Hb.setSameL (by first | omega | (simp only [size_alloc, size_setB, size_drew]; omega)) | exact Hb.setSame (by assumption) | refine Hb.set (by first | omega | (simp only [size_alloc, size_setB, size_drew]; omega)) ?_ ))) (by first | omega | assumption | rfl | decide | exact Nat.le_refl _ | (simp only [size_ic, Value.cells]; omega) | (simp [encWs]; done) | (simp; omega) | simp | exact encYA_sz (by assumption) | exact encYT_sz (by assumption) | exact encYM_sz (by assumption)) (by first | omega | assumption | rfl | decide | exact Nat.le_refl _ | (simp only [size_ic, Value.cells]; omega) | (simp [encWs]; done) | (simp; omega) | simp | exact encYA_sz (by assumption) | exact encYT_sz (by assumption) | exact encYM_sz (by assumption)) (by first | exact oneCell_ic | assumption | exact one_Ws2 _ | exact one_YA2 _ | exact one_YSl2 _ | exact one_YM2 _ | exact one_YT2 _ | exact one_L2 _) (fun h => by cases h) ?_
              refine WH_nil ?_
              refine F_end ?_
              refine thn_normal ?_
              exact ⟨b9, s44, s47, s50, ⟨rfl, rfl, rfl, rfl, rfl, rfl, trivial⟩, (by repeat (first | assumption | exact Ext.refl _ | refine Ext.alloc ?_ _ | refine Ext.drew ?_ | refine Ext.setB ?_ (by first | omega | (simp only [size_alloc, size_setB, size_drew]; omega)) _ | exact Ext.trans (by assumption) (by assumption) | refine Ext.trans ?_ (by assumption))), by omega, by omega, Hb.mk (Hb.h (by repeat (first | assumption | exact Hb.newY _ _ | refine Hb.alloc ?_ | refine Hb.drew ?_ | refine Hb.ext (by assumption) ?_ | exact Hb.setSameL (by first | omega | (simp only [size_alloc, size_setB, size_drew]; omega)) | exact Hb.setSame (by assumption) | refine Hb.set (by first | omega | (simp only [size_alloc, size_setB, size_drew]; omega)) ?_ ))), Hb.mk (Hb.h (by repeat (first | assumption | exact Hb.newY _ _ | refine Hb.alloc ?_ | refine Hb.drew ?_ | refine Hb.ext (by assumption) ?_ | exact Hb.setSameL (by first | omega | (simp only [size_alloc, size_setB, size_drew]; omega)) | exact Hb.setSame (by assumption) | refine Hb.set (by first | omega | (simp only [size_alloc, size_setB, size_drew]; omega)) ?_ ))), (by first | (refine NN.ext hN44 ?_; (repeat (first | assumption | exact Ext.refl _ | refine Ext.alloc ?_ _ | refine Ext.drew ?_ | refine Ext.setB ?_ (by first | omega | (simp only [size_alloc, size_setB, size_drew]; omega)) _ | refine Ext.trans ?_ (by assumption))); done) | exact NN.b104 hN44 (Hb.mk (Hb.h (by repeat (first | assumption | exact Hb.newY _ _ | refine Hb.alloc ?_ | refine Hb.drew ?_ | refine Hb.ext (by assumption) ?_ | exact Hb.setSameL (by first | omega | (simp only [size_alloc, size_setB, size_drew]; omega)) | exact Hb.setSame (by assumption) | refine Hb.set (by first | omega | (simp only [size_alloc, size_setB, size_drew]; omega)) ?_ )))) | exact NN.b104 (NN.ext hN44 (by repeat (first | assumption | exact Ext.refl _ | refine Ext.alloc ?_ _ | refine Ext.drew ?_ | refine Ext.setB ?_ (by first | omega | (simp only [size_alloc, size_setB, size_drew]; omega)) _ | exact Ext.trans (by assumption) (by assumption) | refine Ext.trans ?_ (by assumption)))) (Hb.mk (Hb.h (by repeat (first | assumption | exact Hb.newY _ _ | refine Hb.alloc ?_ | refine Hb.drew ?_ | refine Hb.ext (by assumption) ?_ | exact Hb.setSameL (by first | omega | (simp only [size_alloc, size_setB, size_drew]; omega)) | exact Hb.setSame (by assumption) | refine Hb.set (by first | omega | (simp only [size_alloc, size_setB, size_drew]; omega)) ?_ ))))), (by first | (refine NN.ext hN47 ?_; (repeat (first | assumption | exact Ext.refl _ | refine Ext.alloc ?_ _ | refine Ext.drew ?_ | refine Ext.setB ?_ (by first | omega | (simp only [size_alloc, size_setB, size_drew]; omega)) _ | refine Ext.trans ?_ (by assumption))); done) | exact NN.b104 hN47 (Hb.mk (Hb.h (by repeat (first | assumption | exact Hb.newY _ _ | refine Hb.alloc ?_ | refine Hb.drew ?_ | refine Hb.ext (by assumption) ?_ | exact Hb.setSameL (by first | omega | (simp only [size_alloc, size_setB, size_drew]; omega)) | exact Hb.setSame (by assumption) | refine Hb.set (by first | omega | (simp only [size_alloc, size_setB, size_drew]; omega)) ?_ )))) | exact NN.b104 (NN.ext hN47 (by repeat (first | assumption | exact Ext.refl _ | refine Ext.alloc ?_ _ | refine Ext.drew ?_ | refine Ext.setB ?_ (by first | omega | (simp only [size_alloc, size_setB, size_drew]; omega)) _ | exact Ext.trans (by assumption) (by assumption) | refine Ext.trans ?_ (by assumption)))) (Hb.mk (Hb.h (by repeat (first | assumption | exact Hb.newY _ _ | refine Hb.alloc ?_ | refine Hb.drew ?_ | refine Hb.ext (by assumption) ?_ | exact Hb.setSameL (by first | omega | (simp only [size_alloc, size_setB, size_drew]; omega)) | exact Hb.setSame (by assumption) | refine Hb.set (by first | omega | (simp only [size_alloc, size_setB, size_drew]; omega)) ?_ ))))), (by first | (refine PB.ext hN50 ?_; (repeat (first | assumption | exact Ext.refl _ | refine Ext.alloc ?_ _ | refine Ext.drew ?_ | refine Ext.setB ?_ (by first | omega | (simp only [size_alloc, size_setB, size_drew]; omega)) _ | refine Ext.trans ?_ (by assumption))); done) | exact PB.b104 hN50 (Hb.mk (Hb.h (by repeat (first | assumption | exact Hb.newY _ _ | refine Hb.alloc ?_ | refine Hb.drew ?_ | refine Hb.ext (by assumption) ?_ | exact Hb.setSameL (by first | omega | (simp only [size_alloc, size_setB, size_drew]; omega)) | exact Hb.setSame (by assumption) | refine Hb.set (by first | omega | (simp only [size_alloc, size_setB, size_drew]; omega)) ?_ )))) | exact PB.b104 (PB.ext hN50 (by repeat (first | assumption | exact Ext.refl _ | refine Ext.alloc ?_ _ | refine Ext.drew ?_ | refine Ext.setB ?_ (by first | omega | (simp only [size_alloc, size_setB, size_drew]; omega)) _ | exact Ext.trans (by assumption) (by assumption) | refine Ext.trans ?_ (by assumption)))) (Hb.mk (Hb.h (by repeat (first | assumption | exact Hb.newY _ _ | refine Hb.alloc ?_ | refine Hb.drew ?_ | refine Hb.ext (by assumption) ?_ | exact Hb.setSameL (by first | omega | (simp only [size_alloc, size_setB, size_drew]; omega)) | exact Hb.setSame (by assumption) | refine Hb.set (by first | omega | (simp only [size_alloc, size_setB, size_drew]; omega)) ?_ )))))⟩
          · refine WH_allocG Hvac.zeroValue104 ?_
            intro b9 v9 hg9 hE9 hH9 hl9
            try simp only [size_alloc, size_setB, size_drew] at hg9
            have hzz9 := hE9.1
            try simp only [size_alloc, size_setB, size_drew] at hzz9
            replace hH9 : Hb v9 b9 (.cells ((encYA (ac0 (List.replicate 20 0))).toArray) 104 (0, 0)) := hH9
            refine ⟨fun _ => (by repeat (first | assumption | exact Ext.refl _ | refine Ext.alloc ?_ _ | refine Ext.drew ?_ | refine Ext.setB ?_ (by first | omega | (simp only [size_alloc, size_setB, size_drew]; omega)) _ | exact Ext.trans (by assumption) (by assumption) | refine Ext.trans ?_ (by assumption))), ?_⟩
            refine WH_nil ?_
            refine F_q (i := 4) rfl (by kernel_rfl) ?_
            refine WH_call Hvac.call19 (by rfl) (Ret.mono (nNum_spec (OmB.ext hO (by repeat (first | assumption | exact Ext.refl _ | refine Ext.alloc ?_ _ | refine Ext.drew ?_ | refine Ext.setB ?_ (by first | omega | (simp only [size_alloc, size_setB, size_drew]; omega)) _ | exact Ext.trans (by assumption) (by assumption) | refine Ext.trans ?_ (by assumption)))) ⟨by omega, by omega⟩) ?_)
            rintro _ w19_17 ⟨hE19_17, s44, rfl, hN44, hs44⟩
            refine ⟨fun _ => (by repeat (first | assumption | exact Ext.refl _ | refine Ext.alloc ?_ _ | refine Ext.drew ?_ | refine Ext.setB ?_ (by first | omega | (simp only [size_alloc, size_setB, size_drew]; omega)) _ | exact Ext.trans (by assumption) (by assumption) | refine Ext.trans ?_ (by assumption))), ?_⟩
            have hz19_17 := hE19_17.1
            try simp only [size_alloc, size_setB, size_drew] at hz19_17
            refine WH_nil ?_
            refine F_q (i := 5) rfl (by kernel_rfl) ?_
            refine WH_p (PS_fieldAddr 21 Hvac.runUnderlying148 rfl Hvac.sizeOf28 rfl rfl) rfl ?_
            refine WH_nil ?_
            refine F_q (i := 6) rfl (by kernel_rfl) ?_
            refine WH_p (PS_slA Hvac.runUnderlying28 Hvac.sizeOf5 rfl (by omega)) rfl ?_
            refine WH_nil ?_
            refine F_q (i := 7) rfl (by kernel_rfl) ?_
            refine WH_call Hvac.call29 (by rfl) (Ret.mono (nBE_spec (OmB.ext hO (by repeat (first | assumption | exact Ext.refl _ | refine Ext.alloc ?_ _ | refine Ext.drew ?_ | refine Ext.setB ?_ (by first | omega | (simp only [size_alloc, size_setB, size_drew]; omega)) _ | exact Ext.trans (by assumption) (by assumption) | refine Ext.trans ?_ (by assumption)))) (AB.xt (Hb.mk (Hb.h (by repeat (first | assumption | exact Hb.newY _ _ | refine Hb.alloc ?_ | refine Hb.drew ?_ | refine Hb.ext (by assumption) ?_ | exact Hb.setSameL (by first | omega | (simp only [size_alloc, size_setB, size_drew]; omega)) | exact Hb.setSame (by assumption) | refine Hb.set (by first | omega | (simp only [size_alloc, size_setB, size_drew]; omega)) ?_ )))) hba (by omega) hk.ba.1 hk.ba.2) (by omega)) ?_)
            rintro _ w29_18 ⟨hE29_18, s47, rfl, hN47⟩
            refine ⟨fun _ => (by repeat (first | assumption | exact Ext.refl _ | refine Ext.alloc ?_ _ | refine Ext.drew ?_ | refine Ext.setB ?_ (by first | omega | (simp only [size_alloc, size_setB, size_drew]; omega)) _ | exact Ext.trans (by assumption) (by assumption) | refine Ext.trans ?_ (by assumption))), ?_⟩
            have hz29_18 := hE29_18.1
            try simp only [size_alloc, size_setB, size_drew] at hz29_18
            refine WH_nil ?_
            refine F_q (i := 8) rfl (by kernel_rfl) ?_
            refine WH_p (PS_fieldAddr 53 Hvac.runUnderlying148 rfl Hvac.sizeOf32 rfl rfl) rfl ?_
            refine WH_nil ?_
            refine F_q (i := 9) rfl (by kernel_rfl) ?_
            refine WH_load (.slice _ _ _) Hvac.isAgg32 rfl (Hb.h (by repeat (first | assumption | exact Hb.newY _ _ | refine Hb.alloc ?_ | refine Hb.drew ?_ | refine Hb.ext (by assumption) ?_ | exact Hb.setSameL (by first | omega | (simp only [size_alloc, size_setB, size_drew]; omega)) | exact Hb.setSame (by assumption) | refine Hb.set (by first | omega | (simp only [size_alloc, size_setB, size_drew]; omega)) ?_ ))) (Ce.h (by first | assumption | exact ⟨rfl⟩)) ?_
            refine WH_nil ?_
            refine F_q (i := 10) rfl (by kernel_rfl) ?_
            refine WH_call Hvac.call31 (by rfl) (Ret.mono (yBytesOf_spec _ (OmB.ext hO (by repeat (first | assumption | exact Ext.refl _ | refine Ext.alloc ?_ _ | refine Ext.drew ?_ | refine Ext.setB ?_ (by first | omega | (simp only [size_alloc, size_setB, size_drew]; omega)) _ | exact Ext.trans (by assumption) (by assumption) | refine Ext.trans ?_ (by assumption)))) _ _ _ _ (AB.ext hcAB (hEwL.trans (by repeat (first | assumption | exact Ext.refl _ | refine Ext.alloc ?_ _ | refine Ext.drew ?_ | refine Ext.setB ?_ (by first | omega | (simp only [size_alloc, size_setB, size_drew]; omega)) _ | exact Ext.trans (by assumption) (by assumption) | refine Ext.trans ?_ (by assumption))))) (by omega)) ?_)
            rintro _ w31_19 ⟨hE31_19, s50, rfl, hN50⟩
            refine ⟨fun _ => (by repeat (first | assumption | exact Ext.refl _ | refine Ext.alloc ?_ _ | refine Ext.drew ?_ | refine Ext.setB ?_ (by first | omega | (simp only [size_alloc, size_setB, size_drew]; omega)) _ | exact Ext.trans (by assumption) (by assumption) | refine Ext.trans ?_ (by assumption))), ?_⟩
            have hz31_19 := hE31_19.1
            try simp only [size_alloc, size_setB, size_drew] at hz31_19
            refine WH_nil ?_
            refine F_q (i := 11) rfl (by kernel_rfl) ?_
            refine WH_p (PS_b104_0123 (A := x.addr) rfl hadl rfl rfl rfl) rfl ?_
            have hsz9 : (encYA ⟨x.addr, s44, s47, s50, (none, 0, 0)⟩).toArray.size = 24 := encYA_sz hadl
            have hone9 := one_YA2 ⟨x.addr, s44, s47, s50, (none, 0, 0)⟩
            refine WH_nil ?_
            refine F_q (i := 13) rfl (by kernel_rfl) ?_
            first | refine WH_storeW Hvac.sizeOf104 rfl (v := .agg _) rfl (Hb.h (by repeat (first | assumption | exact Hb.newY _ _ | refine Hb.alloc ?_ | refine Hb.drew ?_ | refine Hb.ext (by assumption) ?_ | exact Hb.setSameL (by first | omega | (simp only [size_alloc, size_setB, size_drew]; omega)) | exact Hb.setSame (by assumption) | refine Hb.set (by first | omega | (simp only [size_alloc, size_setB, size_drew]; omega)) ?_ ))) rfl (by first | omega | assumption | rfl | decide | exact Nat.le_refl _ | (simp only [size_ic, Value.cells]; omega) | (simp [encWs]; done) | (simp; omega) | simp | exact encYA_sz (by assumption) | exact encYT_sz (by assumption) | exact encYM_sz (by assumption)) (by first | omega | assumption | rfl | decide | exact Nat.le_refl _ | (simp only [size_ic, Value.cells]; omega) | (simp [encWs]; done) | (simp; omega) | simp | exact encYA_sz (by assumption) | exact encYT_sz (by assumption) | exact encYM_sz (by assumption)) (by first | exact oneCell_ic | assumption | exact one_Ws2 _ | exact one_YA2 _ | exact one_YSl2 _ | exact one_YM2 _ | exact one_YT2 _ | exact one_L2 _) (fun h => by cases h) ?_ | refine WH_store Hvac.sizeOf104 rfl (v := .agg _) rfl (Hb.h (by repeat (first | assumption | exact Hb.newY _ _ | refine Hb.alloc ?_ | refine Hb.drew ?_ | refine Hb.ext (by assumption) ?_ | exact Hb.setSameL (by first | omega | (simp only [size_alloc, size_setB, size_drew]; omega)) | exact Hb.setSame (by assumption) | refine Hb.set (by first | omega | (simp only [size_alloc, size_setB, size_drew]; omega)) ?_ ))) (by first | omega | assumption | rfl | decide | exact Nat.le_refl _ | (simp only [size_ic, Value.cells]; omega) | (simp [encWs]; done) | (simp; omega) | simp | exact encYA_sz (by assumption) | exact encYT_sz (by assumption) | exact encYM_sz (by assumption)) (by first | omega | assumption | rfl | decide | exact Nat.le_refl _ | (simp only [size_ic, Value.cells]; omega) | (simp [encWs]; done) | (simp; omega) | simp | exact encYA_sz (by assumption) | exact encYT_sz (by assumption) | exact encYM_sz (by assumption)) (by first | exact oneCell_ic | assumption | exact one_Ws2 _ | exact one_YA2 _ | exact one_YSl2 _ | exact one_YM2 _ | exact one_YT2 _ | exact one_L2 _) (fun h => by cases h) ?_
            refine WH_nil ?_
            refine F_end ?_
            refine thn_normal ?_
            exact ⟨b9, s44, s47, s50, ⟨rfl, rfl, rfl, rfl, rfl, rfl, trivial⟩, (by repeat (first | assumption | exact Ext.refl _ | refine Ext.alloc ?_ _ | refine Ext.drew ?_ | refine Ext.setB ?_ (by first | omega | (simp only [size_alloc, size_setB, size_drew]; omega)) _ | exact Ext.trans (by assumption) (by assumption) | refine Ext.trans ?_ (by assumption))), by omega, by omega, Hb.mk (Hb.h (by repeat (first | assumption | exact Hb.newY _ _ | refine Hb.alloc ?_ | refine Hb.drew ?_ | refine Hb.ext (by assumption) ?_ | exact Hb.setSameL (by first | omega | (simp only [size_alloc, size_setB, size_drew]; omega)) | exact Hb.setSame (by assumption) | refine Hb.set (by first | omega | (simp only [size_alloc, size_setB, size_drew]; omega)) ?_ ))), Hb.mk (Hb.h (by repeat (first | assumption | exact Hb.newY _ _ | refine Hb.alloc ?_ | refine Hb.drew ?_ | refine Hb.ext (by assumption) ?_ | exact Hb.setSameL (by first | omega | (simp only [size_alloc, size_setB, size_drew]; omega)) | exact Hb.setSame (by assumption) | refine Hb.set (by first | omega | (simp only [size_alloc, size_setB, size_drew]; omega)) ?_ ))), (by first | (refine NN.ext hN44 ?_; (repeat (first | assumption | exact Ext.refl _ | refine Ext.alloc ?_ _ | refine Ext.drew ?_ | refine Ext.setB ?_ (by first | omega | (simp only [size_alloc, size_setB, size_drew]; omega)) _ | refine Ext.trans ?_ (by assumption))); done) | exact NN.b104 hN44 (Hb.mk (Hb.h (by repeat (first | assumption | exact Hb.newY _ _ | refine Hb.alloc ?_ | refine Hb.drew ?_ | refine Hb.ext (by assumption) ?_ | exact Hb.setSameL (by first | omega | (simp only [size_alloc, size_setB, size_drew]; omega)) | exact Hb.setSame (by assumption) | refine Hb.set (by first | omega | (simp only [size_alloc, size_setB, size_drew]; omega)) ?_ )))) | exact NN.b104 (NN.ext hN44 (by repeat (first | assumption | exact Ext.refl _ | refine Ext.alloc ?_ _ | refine Ext.drew ?_ | refine Ext.setB ?_ (by first | omega | (simp only [size_alloc, size_setB, size_drew]; omega)) _ | exact Ext.trans (by assumption) (by assumption) | refine Ext.trans ?_ (by assumption)))) (Hb.mk (Hb.h (by repeat (first | assumption | exact Hb.newY _ _ | refine Hb.alloc ?_ | refine Hb.drew ?_ | refine Hb.ext (by assumption) ?_ | exact Hb.setSameL (by first | omega | (simp only [size_alloc, size_setB, size_drew]; omega)) | exact Hb.setSame (by assumption) | refine Hb.set (by first | omega | (simp only [size_alloc, size_setB, size_drew]; omega)) ?_ ))))), (by first | (refine NN.ext hN47 ?_; (repeat (first | assumption | exact Ext.refl _ | refine Ext.alloc ?_ _ | refine Ext.drew ?_ | refine Ext.setB ?_ (by first | omega | (simp only [size_alloc, size_setB, size_drew]; omega)) _ | refine Ext.trans ?_ (by assumption))); done) | exact NN.b104 hN47 (Hb.mk (Hb.h (by repeat (first | assumption | exact Hb.newY _ _ | refine Hb.alloc ?_ | refine Hb.drew ?_ | refine Hb.ext (by assumption) ?_ | exact Hb.setSameL (by first | omega | (simp only [size_alloc, size_setB, size_drew]; omega)) | exact Hb.setSame (by assumption) | refine Hb.set (by first | omega | (simp only [size_alloc, size_setB, size_drew]; omega)) ?_ )))) | exact NN.b104 (NN.ext hN47 (by repeat (first | assumption | exact Ext.refl _ | refine Ext.alloc ?_ _ | refine Ext.drew ?_ | refine Ext.setB ?_ (by first | omega | (simp only [size_alloc, size_setB, size_drew]; omega)) _ | exact Ext.trans (by assumption) (by assumption) | refine Ext.trans ?_ (by assumption)))) (Hb.mk (Hb.h (by repeat (first | assumption | exact Hb.newY _ _ | refine Hb.alloc ?_ | refine Hb.drew ?_ | refine Hb.ext (by assumption) ?_ | exact Hb.setSameL (by first | omega | (simp only [size_alloc, size_setB, size_drew]; omega)) | exact Hb.setSame (by assumption) | refine Hb.set (by first | omega | (simp only [size_alloc, size_setB, size_drew]; omega)) ?_ ))))), (by first | (refine PB.ext hN50 ?_; (repeat (first | assumption | exact Ext.refl _ | refine Ext.alloc ?_ _ | refine Ext.drew ?_ | refine Ext.setB ?_ (by first | omega | (simp only [size_alloc, size_setB, size_drew]; omega)) _ | refine Ext.trans ?_ (by assumption))); done) | exact PB.b104 hN50 (Hb.mk (Hb.h (by repeat (first | assumption | exact Hb.newY _ _ | refine Hb.alloc ?_ | refine Hb.drew ?_ | refine Hb.ext (by assumption) ?_ | exact Hb.setSameL (by first | omega | (simp only [size_alloc, size_setB, size_drew]; omega)) | exact Hb.setSame (by assumption) | refine Hb.set (by first | omega | (simp only [size_alloc, size_setB, size_drew]; omega)) ?_ )))) | exact PB.b104 (PB.ext hN50 (by repeat (first | assumption | exact Ext.refl _ | refine Ext.alloc ?_ _ | refine Ext.drew ?_ | refine Ext.setB ?_ (by first | omega | (simp only [size_alloc, size_setB, size_drew]; omega)) _ | exact Ext.trans (by assumption) (by assumption) | refine Ext.trans ?_ (by assumption)))) (Hb.mk (Hb.h (by repeat (first | assumption | exact Hb.newY _ _ | refine Hb.alloc ?_ | refine Hb.drew ?_ | refine Hb.ext (by assumption) ?_ | exact Hb.setSameL (by first | omega | (simp only [size_alloc, size_setB, size_drew]; omega)) | exact Hb.setSame (by assumption) | refine Hb.set (by first | omega | (simp only [size_alloc, size_setB, size_drew]; omega)) ?_ )))))⟩
        · rintro ρA wA ⟨b9, sn, sb, sc, hFrA, hEA, hg9, hne89, hb8A, hb9A, hNnA, hNbA, hPcA⟩
          refine W_env _ hFrA ?_
          have hzA := hEA.1
          have hb8Al := hb8A.lt
          have hb9Al := hb9A.lt
          have hsA9 : Ce (encYA ⟨x.addr, sn, sb, sc, (none, 0, 0)⟩).toArray (0 + 23) (.slice none 0 0) := encYA_4 (x := ⟨x.addr, sn, sb, sc, (none, 0, 0)⟩) hadl
          refine W_seq ?_
          refine W_seq ?_
          refine W_region rfl ?_
          refine WO_p (PS_fieldAddr 54 Hvac.runUnderlying148 rfl Hvac.sizeOf146 rfl rfl) ?_
          refine WO_load (.slice _ _ _) Hvac.isAgg146 rfl (Hb.h (by repeat (first | assumption | exact Hb.newY _ _ | refine Hb.alloc ?_ | refine Hb.drew ?_ | refine Hb.ext (by assumption) ?_ | exact Hb.setSameL (by first | omega | (simp only [size_alloc, size_setB, size_drew]; omega)) | exact Hb.setSame (by assumption) | refine Hb.set (by first | omega | (simp only [size_alloc, size_setB, size_drew]; omega)) ?_ ))) (Ce.h (by first | assumption | exact ⟨rfl⟩)) ?_
          refine WO_p (PS_lenS Hvac.runUnderlying146 rfl) ?_
          refine WO_p (PS_move_int rfl) ?_
          refine WO_nil ?_
          refine thn_normal ?_
          refine W_block ?_
          refine W_loopN (fun m ρ w' => ∃ (j : Nat) (sS : Option (Nat × Nat)) (KS : List YSl), j + m = x.sl.length ∧ R2 (SlR w') KS ((x.sl.take j).map yslP) ∧ BL encYSl 2 111 wA [] w' sS KS ∧ KeepO (fun b => b = b9) wA w' ∧ Hb w' b9 (.cells (encYA (YAc.mk x.addr sn sb sc (slp sS, KS.length, slc sS))).toArray 104 (0, 0)) ∧ Fr [(6, .pointer (some ⟨b20, 0, none⟩)), (8, .pointer (some ⟨b8, 0, none⟩)), (9, .pointer (some ⟨b9, 0, none⟩)), (34, .slice (some ⟨bb, o, none⟩) l.length cp), (35, .int .i64 l.length), (36, .int .i64 i), (53, .slice pst x.sto.2.1 x.sto.2.2), (54, .int .i64 x.sto.2.1), (55, .int .i64 j)] ρ) x.sl.length ?_ ?_
          · exact ⟨0, none, [], by omega, R2.nil _, BL.nil _ _ _ _ _ _, KeepO.refl _ _, hb9A, ⟨rfl, rfl, rfl, rfl, rfl, rfl, rfl, rfl, rfl, trivial⟩⟩
          intro mS ρS wS hIS
          obtain ⟨j, sS, KS, hjm, hKSR, hBS, hKS, hb9S, hFS⟩ := hIS
          refine W_env _ hFS ?_
          have hzS := hKS.sz
          have hb9Sl := hb9S.lt
          have hOA : OmB wA := hOL.ext hEA
          have hOS : OmB wS := hOA.keep hKS
          replace hO := hOS
          have hEwA : Ext w wA := hEwL.trans hEA
          have hEwS : Ext w wS := ext_keep hEwA hKS (fun b e => by omega)
          have hKSl := hKSR.len
          rw [List.length_map, List.length_take] at hKSl
          refine W_seq ?_
          refine W_region rfl ?_
          refine WO_p (PS_lss rfl rfl) ?_
          refine WO_nil ?_
          refine thn_normal ?_
          refine W_seq ?_
          refine W_if rfl (fun hb22 => ?_) (fun hb22 => ?_)
          · have hb22p := hb22.h; try simp only [al_ete, al_dfn, Bool.not_eq_true', Bool.not_eq_false', al_ne, Bool.not_not, al_nn] at hb22p
            have hjz : j < x.sl.length := by omega
            obtain ⟨z, hz9⟩ : ∃ z, x.sl[j]? = some z := ⟨_, List.getElem?_eq_getElem hjz⟩
            obtain ⟨bb2, o2, r2, Tz2, fz2, hp2, hbx2, hrl2⟩ := hk.so.get hz9
            have hzk := hk.sr z (List.mem_of_getElem? hz9)
            rw [hpst] at hp2
            subst hp2
            have hza := (hrl2.sl hz9 hzk).bd
            have hzw := hrl2.ext hz9 (k := 0) (n := 64) (by decide) (sl_whole hzk) (encSl_len hzk)
            have hxk := xt_slk hzk
            have hxv := xt_slv hzk
            have hze2 : (encSl z).toArray.size = 64 := by simpa using encSl_len hzk
            have hbxS := hbx2.ext hEwS
            have hsA9 : Ce (encYA (YAc.mk x.addr sn sb sc (slp sS, KS.length, slc sS))).toArray (0 + 23) (.slice (slp sS) KS.length (slc sS)) := encYA_4 (x := (YAc.mk x.addr sn sb sc (slp sS, KS.length, slc sS))) hadl
            have hszA9 : (encYA (YAc.mk x.addr sn sb sc (slp sS, KS.length, slc sS))).toArray.size = 24 := encYA_sz (x := (YAc.mk x.addr sn sb sc (slp sS, KS.length, slc sS))) hadl
            have hzk1 : sz (bvY z.key) ≤ 32 := by have := sz_le (bv_lt hzk.k.2); rwa [hzk.k.1] at this
            have hzk2 : sz (bvY z.val) ≤ 32 := by have := sz_le (bv_lt hzk.v.2); rwa [hzk.v.1] at this
            refine W_skip ?_
            refine thn_normal ?_
            refine W_seq ?_
            refine W_block ?_
            refine W_seq ?_
            refine W_region rfl ?_
            refine WO_p (PS_indexS Hvac.runUnderlying146 Hvac.sizeOf150 rfl rfl (by omega) (by omega)) ?_
            refine WO_loadA _ Hvac.isAgg150 Hvac.sizeOf150 rfl (Hb.h (by repeat (first | assumption | exact Hb.newY _ _ | refine Hb.alloc ?_ | refine Hb.drew ?_ | refine Hb.ext (by assumption) ?_ | exact Hb.setSameL (by first | omega | (simp only [size_alloc, size_setB, size_drew]; omega)) | exact Hb.setSame (by assumption) | refine Hb.set (by first | omega | (simp only [size_alloc, size_setB, size_drew]; omega)) ?_ ))) (by first | omega | assumption | rfl | decide | exact Nat.le_refl _ | (simp only [size_ic, Value.cells]; omega) | (simp [encWs]; done) | (simp; omega) | simp | exact encYA_sz (by assumption) | exact encYT_sz (by assumption) | exact encYM_sz (by assumption)) (Xt.h (by first | assumption | exact Xt.whole rfl rfl | exact Xt.whole rfl (by assumption) | exact Xt.whole rfl (by simp only [size_ic, Value.cells]; omega) | exact ⟨rfl⟩)) ?_
            refine WO_allocG Hvac.zeroValue150 ?_
            intro b11 v11 hg11 hE11 hH11 hl11
            try simp only [size_alloc, size_setB, size_drew] at hg11
            have hzz11 := hE11.1
            try simp only [size_alloc, size_setB, size_drew] at hzz11
            replace hH11 : Hb v11 b11 (.cells ((List.replicate 64 (Value.int .u8 0)).toArray) 150 (0, 0)) := hH11
            refine WO_storeW Hvac.sizeOf150 rfl (v := .agg (encSl z).toArray) rfl hH11.h rfl hze2 (by simp) (one_encSl z) ?_
            refine WO_nil ?_
            refine thn_normal ?_
            refine W_gen fun wB hwB => ?_
            have hEB : Ext wS wB := by rw [hwB]; exact Ext.setB hE11 hg11 _
            have hBB : BL encYSl 2 111 wA [b11] wB sS KS := by rw [hwB]; exact ((hBS.cons hg11).ext hE11).set (Or.inl (by simp)) _
            have hb9B : Hb wB b9 (.cells (encYA (YAc.mk x.addr sn sb sc (slp sS, KS.length, slc sS))).toArray 104 (0, 0)) := hb9S.ext hEB
            have hb11B : Hb wB b11 (.cells (encSl z).toArray 150 (0, 0)) := by rw [hwB]; exact Hb.setSame hH11
            clear hwB
            have hKB := hKS.extR hEB
            have hzB := hEB.1
            have hb9Bl := hb9B.lt
            have hb11Bl := hb11B.lt
            replace hO := hOS.ext hEB
            refine W_drawE [false, false, false, false, true, false, false, true, false, true, false, false, false] hmix (by kernel_rfl) rfl ?_
            refine WH_p (PS_fieldAddr 23 Hvac.runUnderlying104 rfl Hvac.sizeOf102 rfl rfl) rfl ?_
            refine WH_load (.slice _ _ _) Hvac.isAgg102 rfl (Hb.h (by repeat (first | assumption | exact Hb.newY _ _ | refine Hb.alloc ?_ | refine Hb.drew ?_ | refine Hb.ext (by assumption) ?_ | exact Hb.setSameL (by first | omega | (simp only [size_alloc, size_setB, size_drew]; omega)) | exact Hb.setSame (by assumption) | refine Hb.set (by first | omega | (simp only [size_alloc, size_setB, size_drew]; omega)) ?_ ))) (Ce.h (by first | assumption | exact ⟨rfl⟩)) ?_
            refine WH_p (PS_fieldAddr 0 Hvac.runUnderlying150 rfl Hvac.sizeOf28 rfl rfl) rfl ?_
            refine WH_p (PS_slA Hvac.runUnderlying28 Hvac.sizeOf5 rfl (by omega)) rfl ?_
            refine WH_call Hvac.call29 (by rfl) (Ret.mono (nBE_spec (OmB.ext hO (by repeat (first | assumption | exact Ext.refl _ | refine Ext.alloc ?_ _ | refine Ext.drew ?_ | refine Ext.setB ?_ (by first | omega | (simp only [size_alloc, size_setB, size_drew]; omega)) _ | exact Ext.trans (by assumption) (by assumption) | refine Ext.trans ?_ (by assumption)))) (AB.xt (Hb.mk (Hb.h (by repeat (first | assumption | exact Hb.newY _ _ | refine Hb.alloc ?_ | refine Hb.drew ?_ | refine Hb.ext (by assumption) ?_ | exact Hb.setSameL (by first | omega | (simp only [size_alloc, size_setB, size_drew]; omega)) | exact Hb.setSame (by assumption) | refine Hb.set (by first | omega | (simp only [size_alloc, size_setB, size_drew]; omega)) ?_ )))) hxk (by omega) hzk.k.1 hzk.k.2) (by omega)) ?_)
            rintro _ w63 ⟨hE63, s63, rfl, hN63⟩
            refine ⟨fun _ => (by repeat (first | assumption | exact Ext.refl _ | refine Ext.alloc ?_ _ | refine Ext.drew ?_ | refine Ext.setB ?_ (by first | omega | (simp only [size_alloc, size_setB, size_drew]; omega)) _ | exact Ext.trans (by assumption) (by assumption) | refine Ext.trans ?_ (by assumption))), ?_⟩
            refine WH_p (PS_fieldAddr 32 Hvac.runUnderlying150 rfl Hvac.sizeOf28 rfl rfl) rfl ?_
            refine WH_p (PS_slA Hvac.runUnderlying28 Hvac.sizeOf5 rfl (by omega)) rfl ?_
            refine WH_call Hvac.call29 (by rfl) (Ret.mono (nBE_spec (OmB.ext hO (by repeat (first | assumption | exact Ext.refl _ | refine Ext.alloc ?_ _ | refine Ext.drew ?_ | refine Ext.setB ?_ (by first | omega | (simp only [size_alloc, size_setB, size_drew]; omega)) _ | exact Ext.trans (by assumption) (by assumption) | refine Ext.trans ?_ (by assumption)))) (AB.xt (Hb.mk (Hb.h (by repeat (first | assumption | exact Hb.newY _ _ | refine Hb.alloc ?_ | refine Hb.drew ?_ | refine Hb.ext (by assumption) ?_ | exact Hb.setSameL (by first | omega | (simp only [size_alloc, size_setB, size_drew]; omega)) | exact Hb.setSame (by assumption) | refine Hb.set (by first | omega | (simp only [size_alloc, size_setB, size_drew]; omega)) ?_ )))) hxv (by omega) hzk.v.1 hzk.v.2) (by omega)) ?_)
            rintro _ w66 ⟨hE66, s66, rfl, hN66⟩
            refine ⟨fun _ => (by repeat (first | assumption | exact Ext.refl _ | refine Ext.alloc ?_ _ | refine Ext.drew ?_ | refine Ext.setB ?_ (by first | omega | (simp only [size_alloc, size_setB, size_drew]; omega)) _ | exact Ext.trans (by assumption) (by assumption) | refine Ext.trans ?_ (by assumption))), ?_⟩
            have hz63 := hE63.1
            have hz66 := hE66.1
            try simp only [size_alloc, size_setB, size_drew] at hz63 hz66
            refine WH_p (PS_b111 rfl rfl) rfl ?_
            refine WH_buildSlice1 Hvac.runUnderlying102 Hvac.sizeOf111 Hvac.zeroValue111 rfl (by first | omega | assumption | rfl | decide | exact Nat.le_refl _ | (simp only [size_ic, Value.cells]; omega) | (simp [encWs]; done) | (simp; omega) | simp | exact encYA_sz (by assumption) | exact encYT_sz (by assumption) | exact encYM_sz (by assumption)) (by decide) (by decide) (fun _ => (by repeat (first | assumption | exact Ext.refl _ | refine Ext.alloc ?_ _ | refine Ext.drew ?_ | refine Ext.setB ?_ (by first | omega | (simp only [size_alloc, size_setB, size_drew]; omega)) _ | exact Ext.trans (by assumption) (by assumption) | refine Ext.trans ?_ (by assumption)))) ?_
            refine WH_appK (YSl.mk s63 s66) ap_YSl (BL.ext hBB (by repeat (first | assumption | exact Ext.refl _ | refine Ext.alloc ?_ _ | refine Ext.drew ?_ | refine Ext.setB ?_ (by first | omega | (simp only [size_alloc, size_setB, size_drew]; omega)) _ | exact Ext.trans (by assumption) (by assumption) | refine Ext.trans ?_ (by assumption)))) (by first | omega | (simp only [size_alloc, size_setB, size_drew]; omega)) (fm1 (by first | omega | (simp only [size_alloc, size_setB, size_drew]; omega))) (by omega) rfl (Hb.newY _ _) rfl rfl ?_
            intro so24 w24 hB24 hk24
            have hz24 := hk24.sz
            try simp only [size_alloc, size_setB, size_drew] at hz24
            have hty := fun (b : Nat) (hb : blkOf sS b) => (hBB.row.ty_of hb)
            have hb9_24 : Hb w24 b9 (.cells (encYA (YAc.mk x.addr sn sb sc (slp sS, KS.length, slc sS))).toArray 104 (0, 0)) := Hb.keepO hk24 (fun e => absurd (hBB.fr b9 e).1 (by omega)) (Hb.mk (Hb.h (by repeat (first | assumption | exact Hb.newY _ _ | refine Hb.alloc ?_ | refine Hb.drew ?_ | refine Hb.ext (by assumption) ?_ | exact Hb.setSameL (by first | omega | (simp only [size_alloc, size_setB, size_drew]; omega)) | exact Hb.setSame (by assumption) | refine Hb.set (by first | omega | (simp only [size_alloc, size_setB, size_drew]; omega)) ?_ ))))
            have hK24 : KeepO (fun b => b = b9) wA w24 := by
              refine KeepO.trans ?_ hk24 (fun b hb e => absurd (hBB.fr b e).1 (by omega))
              exact hKB.extR (by repeat (first | assumption | exact Ext.refl _ | refine Ext.alloc ?_ _ | refine Ext.drew ?_ | refine Ext.setB ?_ (by first | omega | (simp only [size_alloc, size_setB, size_drew]; omega)) _ | exact Ext.trans (by assumption) (by assumption) | refine Ext.trans ?_ (by assumption)))
            have h5k := KT.keepO (T := 5) (T' := 111) hk24 (fun b hb => by obtain ⟨r9, h9⟩ := hty b hb; exact ⟨r9, _, Hb.ext (by repeat (first | assumption | exact Ext.refl _ | refine Ext.alloc ?_ _ | refine Ext.drew ?_ | refine Ext.setB ?_ (by first | omega | (simp only [size_alloc, size_setB, size_drew]; omega)) _ | exact Ext.trans (by assumption) (by assumption) | refine Ext.trans ?_ (by assumption))) h9⟩) (by decide)
            have hN63b : NN w24 s63 (bvY z.key) := NN.kt (NN.ext hN63 (by repeat (first | assumption | exact Ext.refl _ | refine Ext.alloc ?_ _ | refine Ext.drew ?_ | refine Ext.setB ?_ (by first | omega | (simp only [size_alloc, size_setB, size_drew]; omega)) _ | exact Ext.trans (by assumption) (by assumption) | refine Ext.trans ?_ (by assumption)))) h5k
            have hN66b : NN w24 s66 (bvY z.val) := NN.kt (NN.ext hN66 (by repeat (first | assumption | exact Ext.refl _ | refine Ext.alloc ?_ _ | refine Ext.drew ?_ | refine Ext.setB ?_ (by first | omega | (simp only [size_alloc, size_setB, size_drew]; omega)) _ | exact Ext.trans (by assumption) (by assumption) | refine Ext.trans ?_ (by assumption)))) h5k
            have hR24 : R2 (SlR w24) KS ((x.sl.take j).map yslP) := hKSR.mono fun _ _ h => SlR.kt (SlR.kt h (KT.ext (hEB.trans (by repeat (first | assumption | exact Ext.refl _ | refine Ext.alloc ?_ _ | refine Ext.drew ?_ | refine Ext.setB ?_ (by first | omega | (simp only [size_alloc, size_setB, size_drew]; omega)) _ | exact Ext.trans (by assumption) (by assumption) | refine Ext.trans ?_ (by assumption)))))) h5k
            have hb9_24l := hb9_24.lt
            refine ⟨(fun h => by cases h), ?_⟩
            refine WH_p (PS_fieldAddr 23 Hvac.runUnderlying104 rfl Hvac.sizeOf102 rfl rfl) rfl ?_
            refine WH_store1 Hvac.sizeOf102 rfl (v := (.slice _ _ _)) rfl (Hb.h (by repeat (first | assumption | exact Hb.newY _ _ | refine Hb.alloc ?_ | refine Hb.drew ?_ | refine Hb.ext (by assumption) ?_ | exact Hb.setSameL (by first | omega | (simp only [size_alloc, size_setB, size_drew]; omega)) | exact Hb.setSame (by assumption) | refine Hb.set (by first | omega | (simp only [size_alloc, size_setB, size_drew]; omega)) ?_ ))) rfl (by first | omega | assumption | rfl | decide | exact Nat.le_refl _ | (simp only [size_ic, Value.cells]; omega) | (simp [encWs]; done) | (simp; omega) | simp | exact encYA_sz (by assumption) | exact encYT_sz (by assumption) | exact encYM_sz (by assumption)) rfl (fun h => by cases h) ?_
            refine WH_nil ?_
            refine inBlk_normal ?_
            refine thn_normal ?_
            refine W_region rfl ?_
            refine WO_p (PS_add_i64n rfl rfl (by omega) (by omega)) ?_
            refine WO_p (PS_move_int rfl) ?_
            refine WO_nil ?_
            refine thn_normal ?_
            exact ⟨mS - 1, by omega, j + 1, so24, KS ++ [YSl.mk s63 s66], by omega, by rw [take_sn hz9, List.map_append]; exact (hR24.snoc ⟨hN63b, hN66b, hzk1, hzk2⟩).mono fun _ _ h => SlR.kt h (KT.setB hb9_24 (by decide)), (hB24.tail (by simp)).set (Or.inr (by omega)) _, KeepO.setB hK24 (fun _ => rfl) _, by rw [encYA_set4 (x := (YAc.mk x.addr sn sb sc (slp sS, KS.length, slc sS))) hadl]; exact Hb.setSame hb9_24, ⟨rfl, rfl, rfl, rfl, rfl, rfl, rfl, rfl, congrArg (Value.int .i64) (by omega), trivial⟩⟩
          · have hb22p := hb22.h; try simp only [al_ete, al_dfn, Bool.not_eq_true', Bool.not_eq_false', al_ne, Bool.not_not, al_nn] at hb22p
            have hKTb9 : ∀ T', T' ≠ 104 → KT T' wA wS := fun T' hT => KT.kf hb9A hKS (al_ns hT)
            have hC_S : Hb wS b20 (.cells (encYS (ysN { e with hash := s22 } (slp so, K.length, slc so) tt)).toArray 101 (0, 0)) := (hCL.ext hEA).keepO hKS (fun e => absurd e (by omega))
            have hBLc := (hBL.cons hg9).ext hEA
            have hBLS : BL encYA 24 104 w6 [b9] wS so K := ⟨hBLc.row.keep fun b cap o e hb => hb.keepO hKS (fun e' => (hBLc.fr b ⟨cap, e⟩).2 (by simp [e'])), hBLc.fr⟩
            have hNtS : NN wS tt mtY := (hNt.ext hEA).kt (hKTb9 5 (by decide))
            have hNbS : NN wS sb (bvY x.bal) := hNbA.kt (hKTb9 5 (by decide))
            have hKRS : R2 (AcR wS) K ((l.take i).map yacP) := hKR.mono fun _ _ h => (h.ext hEA).kt (hKTb9 5 (by decide)) (hKTb9 111 (by decide))
            have hjl : x.sl.take j = x.sl := List.take_of_length_le (by omega)
            rw [hjl] at hKSR
            have hxaS : AcR wS (YAc.mk x.addr sn sb sc (slp sS, KS.length, slc sS)) (yacP x) := ⟨rfl, hk.ad, hNnA.kt (hKTb9 5 (by decide)), hNbS, Nat.le_trans (sz64 (n := x.nonce.toNat) (by omega)) (by decide), Nat.le_trans hzba (by decide), hPcA.kt (hKTb9 5 (by decide)), ⟨KS, hBS.pl hOA, hKSR⟩⟩
            have hKS6 : KeepO (fun b => b = b20) w6 wS := (hKL.extR hEA).trans hKS (fun b hb e => absurd e (by omega))
            have hszq : (encYA (YAc.mk x.addr sn sb sc (slp sS, KS.length, slc sS))).toArray.size = 24 := encYA_sz (x := (YAc.mk x.addr sn sb sc (slp sS, KS.length, slc sS))) hadl
            have honeq := one_YA2 (YAc.mk x.addr sn sb sc (slp sS, KS.length, slc sS))
            have hk0S : Ce (encYS (ysN { e with hash := s22 } (slp so, K.length, slc so) tt)).toArray (0 + 0 + 0 + 0) (.slice (slp so) K.length (slc so)) := ⟨rfl⟩
            have hC_Sl := hC_S.lt
            refine W_exit ?_
            refine thn_exit ?_
            refine thn_exit ?_
            refine inBlk_exit ?_
            refine thn_normal ?_
            refine W_seq ?_
            refine W_drawE [false, false, false, false, false, false, false, false, true, false, false, false, false, false, false] hmix (by kernel_rfl) rfl ?_
            refine WH_p (PS_move_ptr rfl) rfl ?_
            refine WH_p (PS_move_ptr rfl) rfl ?_
            refine WH_p (PS_nilCheck rfl) rfl ?_
            refine WH_p (PS_fieldAddr 0 Hvac.runUnderlying101 rfl Hvac.sizeOf99 rfl rfl) rfl ?_
            refine WH_p (PS_fieldAddr 0 Hvac.runUnderlying99 rfl Hvac.sizeOf95 rfl rfl) rfl ?_
            refine WH_p (PS_fieldAddr 0 Hvac.runUnderlying95 rfl Hvac.sizeOf89 rfl rfl) rfl ?_
            refine WH_load (.slice _ _ _) Hvac.isAgg89 rfl (Hb.h (by repeat (first | assumption | exact Hb.newY _ _ | refine Hb.alloc ?_ | refine Hb.drew ?_ | refine Hb.ext (by assumption) ?_ | exact Hb.setSameL (by first | omega | (simp only [size_alloc, size_setB, size_drew]; omega)) | exact Hb.setSame (by assumption) | refine Hb.set (by first | omega | (simp only [size_alloc, size_setB, size_drew]; omega)) ?_ ))) (Ce.h (by first | assumption | exact ⟨rfl⟩)) ?_
            refine WH_loadA _ Hvac.isAgg104 Hvac.sizeOf104 rfl (Hb.h (by repeat (first | assumption | exact Hb.newY _ _ | refine Hb.alloc ?_ | refine Hb.drew ?_ | refine Hb.ext (by assumption) ?_ | exact Hb.setSameL (by first | omega | (simp only [size_alloc, size_setB, size_drew]; omega)) | exact Hb.setSame (by assumption) | refine Hb.set (by first | omega | (simp only [size_alloc, size_setB, size_drew]; omega)) ?_ ))) (by first | omega | assumption | rfl | decide | exact Nat.le_refl _ | (simp only [size_ic, Value.cells]; omega) | (simp [encWs]; done) | (simp; omega) | simp | exact encYA_sz (by assumption) | exact encYT_sz (by assumption) | exact encYM_sz (by assumption)) (Xt.h (by first | assumption | exact Xt.whole rfl rfl | exact Xt.whole rfl (by assumption) | exact Xt.whole rfl (by simp only [size_ic, Value.cells]; omega) | exact ⟨rfl⟩)) ?_
            refine WH_buildSlice1 Hvac.runUnderlying89 Hvac.sizeOf104 Hvac.zeroValue104 rfl (by first | omega | assumption | rfl | decide | exact Nat.le_refl _ | (simp only [size_ic, Value.cells]; omega) | (simp [encWs]; done) | (simp; omega) | simp | exact encYA_sz (by assumption) | exact encYT_sz (by assumption) | exact encYM_sz (by assumption)) (by decide) (by decide) (fun _ => (by repeat (first | assumption | exact Ext.refl _ | refine Ext.alloc ?_ _ | refine Ext.drew ?_ | refine Ext.setB ?_ (by first | omega | (simp only [size_alloc, size_setB, size_drew]; omega)) _ | exact Ext.trans (by assumption) (by assumption) | refine Ext.trans ?_ (by assumption)))) ?_
            refine WH_appK (α := YAc) (YAc.mk x.addr sn sb sc (slp sS, KS.length, slc sS)) ap_YA (BL.ext hBLS (by repeat (first | assumption | exact Ext.refl _ | refine Ext.alloc ?_ _ | refine Ext.drew ?_ | refine Ext.setB ?_ (by first | omega | (simp only [size_alloc, size_setB, size_drew]; omega)) _ | exact Ext.trans (by assumption) (by assumption) | refine Ext.trans ?_ (by assumption)))) (by first | omega | (simp only [size_alloc, size_setB, size_drew]; omega)) (fm1 (by first | omega | (simp only [size_alloc, size_setB, size_drew]; omega))) (by omega) (encYA_len (x := (YAc.mk x.addr sn sb sc (slp sS, KS.length, slc sS))) hadl) (Hb.newY _ _) rfl rfl ?_
            intro so25 w25 hB25 hk25
            have hz25 := hk25.sz
            try simp only [size_alloc, size_setB, size_drew] at hz25
            have hty25 := fun (b : Nat) (hb : blkOf so b) => (hBLS.row.ty_of hb)
            have hC25 : Hb w25 b20 (.cells (encYS (ysN { e with hash := s22 } (slp so, K.length, slc so) tt)).toArray 101 (0, 0)) := Hb.keepO hk25 (fun e => absurd (hBLS.fr b20 e).1 (by omega)) (Hb.mk (Hb.h (by repeat (first | assumption | exact Hb.newY _ _ | refine Hb.alloc ?_ | refine Hb.drew ?_ | refine Hb.ext (by assumption) ?_ | exact Hb.setSameL (by first | omega | (simp only [size_alloc, size_setB, size_drew]; omega)) | exact Hb.setSame (by assumption) | refine Hb.set (by first | omega | (simp only [size_alloc, size_setB, size_drew]; omega)) ?_ ))))
            have hb9_25 : Hb w25 b9 (.cells (encYA (YAc.mk x.addr sn sb sc (slp sS, KS.length, slc sS))).toArray 104 (0, 0)) := Hb.keepO hk25 (fun e => absurd (hBLS.fr b9 e).2 (by simp)) (Hb.mk (Hb.h (by repeat (first | assumption | exact Hb.newY _ _ | refine Hb.alloc ?_ | refine Hb.drew ?_ | refine Hb.ext (by assumption) ?_ | exact Hb.setSameL (by first | omega | (simp only [size_alloc, size_setB, size_drew]; omega)) | exact Hb.setSame (by assumption) | refine Hb.set (by first | omega | (simp only [size_alloc, size_setB, size_drew]; omega)) ?_ ))))
            have hK25 : KeepO (fun b => b = b20) w6 w25 := by
              refine KeepO.trans ?_ hk25 (fun b hb e => absurd (hBLS.fr b e).1 (by omega))
              exact hKS6.extR (by repeat (first | assumption | exact Ext.refl _ | refine Ext.alloc ?_ _ | refine Ext.drew ?_ | refine Ext.setB ?_ (by first | omega | (simp only [size_alloc, size_setB, size_drew]; omega)) _ | exact Ext.trans (by assumption) (by assumption) | refine Ext.trans ?_ (by assumption)))
            have h5k := KT.keepO (T := 5) (T' := 104) hk25 (fun b hb => by obtain ⟨r9, h9⟩ := hty25 b hb; exact ⟨r9, _, Hb.ext (by repeat (first | assumption | exact Ext.refl _ | refine Ext.alloc ?_ _ | refine Ext.drew ?_ | refine Ext.setB ?_ (by first | omega | (simp only [size_alloc, size_setB, size_drew]; omega)) _ | exact Ext.trans (by assumption) (by assumption) | refine Ext.trans ?_ (by assumption))) h9⟩) (by decide)
            have h1k := KT.keepO (T := 111) (T' := 104) hk25 (fun b hb => by obtain ⟨r9, h9⟩ := hty25 b hb; exact ⟨r9, _, Hb.ext (by repeat (first | assumption | exact Ext.refl _ | refine Ext.alloc ?_ _ | refine Ext.drew ?_ | refine Ext.setB ?_ (by first | omega | (simp only [size_alloc, size_setB, size_drew]; omega)) _ | exact Ext.trans (by assumption) (by assumption) | refine Ext.trans ?_ (by assumption))) h9⟩) (by decide)
            have hNt25 : NN w25 tt mtY := NN.kt (NN.ext hNtS (by repeat (first | assumption | exact Ext.refl _ | refine Ext.alloc ?_ _ | refine Ext.drew ?_ | refine Ext.setB ?_ (by first | omega | (simp only [size_alloc, size_setB, size_drew]; omega)) _ | exact Ext.trans (by assumption) (by assumption) | refine Ext.trans ?_ (by assumption)))) h5k
            have hNb25 : NN w25 sb (bvY x.bal) := NN.kt (NN.ext hNbS (by repeat (first | assumption | exact Ext.refl _ | refine Ext.alloc ?_ _ | refine Ext.drew ?_ | refine Ext.setB ?_ (by first | omega | (simp only [size_alloc, size_setB, size_drew]; omega)) _ | exact Ext.trans (by assumption) (by assumption) | refine Ext.trans ?_ (by assumption)))) h5k
            have hR25 : R2 (AcR w25) (K ++ [(YAc.mk x.addr sn sb sc (slp sS, KS.length, slc sS))]) ((l.take i).map yacP ++ [yacP x]) := (hKRS.snoc hxaS).mono fun _ _ h => AcR.kt (AcR.ext h (by repeat (first | assumption | exact Ext.refl _ | refine Ext.alloc ?_ _ | refine Ext.drew ?_ | refine Ext.setB ?_ (by first | omega | (simp only [size_alloc, size_setB, size_drew]; omega)) _ | exact Ext.trans (by assumption) (by assumption) | refine Ext.trans ?_ (by assumption)))) h5k h1k
            have hC25l := hC25.lt
            have hb9_25l := hb9_25.lt
            refine ⟨(fun h => by cases h), ?_⟩
            refine WH_p (PS_nilCheck rfl) rfl ?_
            refine WH_p (PS_fieldAddr 0 Hvac.runUnderlying101 rfl Hvac.sizeOf99 rfl rfl) rfl ?_
            refine WH_p (PS_fieldAddr 0 Hvac.runUnderlying99 rfl Hvac.sizeOf95 rfl rfl) rfl ?_
            refine WH_p (PS_fieldAddr 0 Hvac.runUnderlying95 rfl Hvac.sizeOf89 rfl rfl) rfl ?_
            refine WH_store1 Hvac.sizeOf89 rfl (v := .slice _ _ _) rfl hC25.h rfl (by rw [hszL]; decide) rfl (fun h => by cases h) ?_
            refine WH_nil ?_
            refine thn_normal ?_
            refine W_gen fun wC hwC => ?_
            have hCC : Hb wC b20 (.cells (encYS (ysN { e with hash := s22 } (slp so25, (K ++ [(YAc.mk x.addr sn sb sc (slp sS, KS.length, slc sS))]).length, slc so25) tt)).toArray 101 (0, 0)) := by rw [hwC]; exact Hb.setSame hC25
            have hb9C : Hb wC b9 (.cells (encYA (YAc.mk x.addr sn sb sc (slp sS, KS.length, slc sS))).toArray 104 (0, 0)) := by rw [hwC]; exact Hb.set (by omega) hb9_25
            have hBC : BL encYA 24 104 w6 [] wC so25 (K ++ [(YAc.mk x.addr sn sb sc (slp sS, KS.length, slc sS))]) := by rw [hwC]; exact (hB25.tail (by simp)).set (Or.inr (by omega)) _
            have hKC : KeepO (fun b => b = b20) w6 wC := by rw [hwC]; exact KeepO.setB hK25 (fun _ => rfl) _
            have hRC : R2 (AcR wC) (K ++ [(YAc.mk x.addr sn sb sc (slp sS, KS.length, slc sS))]) ((l.take i).map yacP ++ [yacP x]) := by rw [hwC]; exact hR25.mono fun _ _ h => AcR.keep h (keepSO (Ext.refl _) hSo _)
            have hNtC : NN wC tt mtY := by rw [hwC]; exact hNt25.keep (keepSO (Ext.refl _) hSo _)
            have hNbC : NN wC sb (bvY x.bal) := by rw [hwC]; exact hNb25.keep (keepSO (Ext.refl _) hSo _)
            clear hwC
            have hzC := hKC.sz
            have hCCl := hCC.lt
            have hb9Cl := hb9C.lt
            replace hO := hO6.keep hKC
            have hszM := encYS_sz (x := (ysN { e with hash := s22 } (slp so25, (K ++ [(YAc.mk x.addr sn sb sc (slp sS, KS.length, slc sS))]).length, slc so25) tt)) List.length_replicate List.length_replicate (hev.evb s22)
            have hk18 : Ce (encYS (ysN { e with hash := s22 } (slp so25, (K ++ [(YAc.mk x.addr sn sb sc (slp sS, KS.length, slc sS))]).length, slc so25) tt)).toArray (0 + 0 + 18) (.slice tt.1 tt.2.1 tt.2.2) := ⟨rfl⟩
            have hk21 := encYA_2 (x := (YAc.mk x.addr sn sb sc (slp sS, KS.length, slc sS))) hadl
            refine W_drawE [false, false, false, false, false, false, false, false, false, false, false, false, false] hmix (by kernel_rfl) rfl ?_
            refine WH_p (PS_move_ptr rfl) rfl ?_
            refine WH_p (PS_move_ptr rfl) rfl ?_
            refine WH_p (PS_nilCheck rfl) rfl ?_
            refine WH_p (PS_fieldAddr 0 Hvac.runUnderlying101 rfl Hvac.sizeOf99 rfl rfl) rfl ?_
            refine WH_p (PS_fieldAddr 18 Hvac.runUnderlying99 rfl Hvac.sizeOf92 rfl rfl) rfl ?_
            refine WH_load (.slice _ _ _) Hvac.isAgg92 rfl (Hb.h (by repeat (first | assumption | exact Hb.newY _ _ | refine Hb.alloc ?_ | refine Hb.drew ?_ | refine Hb.ext (by assumption) ?_ | exact Hb.setSameL (by first | omega | (simp only [size_alloc, size_setB, size_drew]; omega)) | exact Hb.setSame (by assumption) | refine Hb.set (by first | omega | (simp only [size_alloc, size_setB, size_drew]; omega)) ?_ ))) (Ce.h (by first | assumption | exact ⟨rfl⟩)) ?_
            refine WH_p (PS_fieldAddr 21 Hvac.runUnderlying104 rfl Hvac.sizeOf92 rfl rfl) rfl ?_
            refine WH_load (.slice _ _ _) Hvac.isAgg92 rfl (Hb.h (by repeat (first | assumption | exact Hb.newY _ _ | refine Hb.alloc ?_ | refine Hb.drew ?_ | refine Hb.ext (by assumption) ?_ | exact Hb.setSameL (by first | omega | (simp only [size_alloc, size_setB, size_drew]; omega)) | exact Hb.setSame (by assumption) | refine Hb.set (by first | omega | (simp only [size_alloc, size_setB, size_drew]; omega)) ?_ ))) (Ce.h (by first | assumption | exact ⟨rfl⟩)) ?_
            refine WH_call Hvac.call24 (by rfl) (Ret.mono (nAdd_spec (OmB.ext hO (by repeat (first | assumption | exact Ext.refl _ | refine Ext.alloc ?_ _ | refine Ext.drew ?_ | refine Ext.setB ?_ (by first | omega | (simp only [size_alloc, size_setB, size_drew]; omega)) _ | exact Ext.trans (by assumption) (by assumption) | refine Ext.trans ?_ (by assumption)))) (by first | exact NN.nil _ | assumption | exact NN.ext (by assumption) (by repeat (first | assumption | exact Ext.refl _ | refine Ext.alloc ?_ _ | refine Ext.drew ?_ | refine Ext.setB ?_ (by first | omega | (simp only [size_alloc, size_setB, size_drew]; omega)) _ | exact Ext.trans (by assumption) (by assumption) | refine Ext.trans ?_ (by assumption)))) (by first | exact NN.nil _ | assumption | exact NN.ext (by assumption) (by repeat (first | assumption | exact Ext.refl _ | refine Ext.alloc ?_ _ | refine Ext.drew ?_ | refine Ext.setB ?_ (by first | omega | (simp only [size_alloc, size_setB, size_drew]; omega)) _ | exact Ext.trans (by assumption) (by assumption) | refine Ext.trans ?_ (by assumption)))) (by first | assumption | omega | (rw [sz_zero]; omega)) (by first | assumption | omega | (rw [sz_zero]; omega))) ?_)
            rintro _ w94 ⟨hE94, s94, rfl, hN94⟩
            refine ⟨(fun h => by cases h), ?_⟩
            have hz94 := hE94.1
            try simp only [size_alloc, size_setB, size_drew] at hz94
            have hs94 := hN94.z_add
            refine WH_p (PS_nilCheck rfl) rfl ?_
            refine WH_p (PS_fieldAddr 0 Hvac.runUnderlying101 rfl Hvac.sizeOf99 rfl rfl) rfl ?_
            refine WH_p (PS_fieldAddr 18 Hvac.runUnderlying99 rfl Hvac.sizeOf92 rfl rfl) rfl ?_
            refine WH_store1 Hvac.sizeOf92 rfl (v := .slice _ _ _) rfl (Hb.h (Hb.ext hE94 (Hb.drew hCC))) rfl (by rw [hszM]; decide) rfl (fun h => by cases h) ?_
            refine WH_nil ?_
            refine inBlk_normal ?_
            refine thn_normal ?_
            refine W_region rfl ?_
            refine WO_p (PS_add_i64n rfl rfl (by omega) (by omega)) ?_
            refine WO_p (PS_move_int rfl) ?_
            refine WO_nil ?_
            refine thn_normal ?_
            exact ⟨mL - 1, by omega, i + 1, so25, K ++ [(YAc.mk x.addr sn sb sc (slp sS, KS.length, slc sS))], s94, mtY + bvY x.bal, by omega, (by rw [take_sn hx, List.map_append]; exact hRC.mono fun _ _ h => AcR.keep (AcR.ext h (by repeat (first | assumption | exact Ext.refl _ | refine Ext.alloc ?_ _ | refine Ext.drew ?_ | refine Ext.setB ?_ (by first | omega | (simp only [size_alloc, size_setB, size_drew]; omega)) _ | refine Ext.trans ?_ (by assumption)))) (keepSO (Ext.refl _) hSo _)), (hBC.ext (by repeat (first | assumption | exact Ext.refl _ | refine Ext.alloc ?_ _ | refine Ext.drew ?_ | refine Ext.setB ?_ (by first | omega | (simp only [size_alloc, size_setB, size_drew]; omega)) _ | refine Ext.trans ?_ (by assumption)))).set (Or.inr (by omega)) _, NN.keep hN94 (keepSO (Ext.refl _) hSo _), by omega, KeepO.setB (hKC.extR (by repeat (first | assumption | exact Ext.refl _ | refine Ext.alloc ?_ _ | refine Ext.drew ?_ | refine Ext.setB ?_ (by first | omega | (simp only [size_alloc, size_setB, size_drew]; omega)) _ | refine Ext.trans ?_ (by assumption)))) (fun _ => rfl) _, Hb.setSame (Hb.ext hE94 (Hb.drew hCC)), ⟨rfl, rfl, rfl, congrArg (Value.int .i64) (by omega), trivial⟩⟩
      · have hb11p := hb11.h; try simp only [al_ete, al_dfn, Bool.not_eq_true', Bool.not_eq_false', al_ne, Bool.not_not, al_nn] at hb11p
        have hil : l.take i = l := List.take_of_length_le (by omega)
        rw [hil] at hKR
        refine W_exit ?_
        refine thn_exit ?_
        refine thn_exit ?_
        refine inBlk_exit ?_
        refine thn_normal ?_
        refine W_seq ?_
        refine W_region rfl ?_
        refine WO_p (PS_move_ptr rfl) ?_
        refine WO_p (PS_assign_ptr rfl) ?_
        refine WO_p (PS_assign_bool rfl) ?_
        refine WO_nil ?_
        refine thn_normal ?_
        refine W_ret ?_
        refine bodyQ_ret2 Hvac.results13 rfl rfl (.pointer _) (.bool _) rfl rfl ?_
        have hYX : YX (fun b => b = b20) wL b20 (ysN { e with hash := s22 } (slp so, K.length, slc so) tt) (ypN (l.map yacP) { e with hash := s22 } (chunk e.hl e.hash.2.1)) [] [] := ⟨hO, (fun b e => e ▸ hSo), rfl, ⟨hCL, strel_new (hev.evb s22) ⟨K, hBL.pl hO6, hKR⟩ (hP6.keep (hKL.om fun b _ e => e ▸ hSo)) (chunk_by hev.ha.len hev.ha.by_), hSo⟩, FRS.nil _ _ _ rfl rfl, (fun b hb => (by obtain ⟨_, h1, h2⟩ := hb; exact absurd h2 (Nat.lt_irrefl 0)))⟩; subst hO2; exact ⟨hEwL, Or.inr ⟨hwk, h4, b20, (slp so, K.length, slc so), tt, s22, rfl, by omega, hYX⟩⟩

end Go.Proofs.YgvacwGreat
