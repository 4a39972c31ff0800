import Derived.Test.YgvadwGreatOp
namespace Go.Proofs.YgvadwGreat
set_option linter.unusedSimpArgs false
set_option linter.unusedVariables false

theorem ntvW_bd (A : List Int) : 0 ≤ ntvW A ∧ ntvW A ≤ 255 := by unfold ntvW; split; decide; split <;> decide
theorem ntvW_cases {A : List Int} (h : ¬ ntvW A = 0) : ntvW A = 4 ∨ ntvW A = 5 := by
  unfold ntvW at h ⊢
  split
  · exact Or.inl rfl
  · split
    · exact Or.inr rfl
    · rename_i h1 h2; rw [if_neg h1, if_neg h2] at h; exact absurd rfl h
set_option maxRecDepth 10000 in
set_option maxHeartbeats 8000000 in
theorem opCall_spec (C : Nat) (c : Array Value) (v : V) (B : VB) (m : Mc) (t : Nat) (f : Fm) (o c' S : Int) (w : World) (hM : MS w C c v B m) (hop : Mc.opc f = o) (hAd : Adm scanW v m t f o (infoW o).2.2.1 c' S) (hk : (infoW o).1 ≤ f.sp ∧ f.sp - (infoW o).1 + (infoW o).2.1 ≤ 64) (hc : 0 < c') (ho : o = 241 ∨ o = 242 ∨ o = 244 ∨ o = 250) : Ret Hvad.prog 111 #[.pointer (some ⟨C, 0, none⟩)] w fun _ w' => ∃ v' m', MRet w C B m w' v' m' ∧ OpP scanW m t c' S v' m' := by
  have hI := hAd.ri
  have hf := hAd.fr
  have hR := hI.run hf
  have hA := hR.fa
  have hblk := hM.vs.blk
  have hCl := hblk.lt
  have hcs := hM.sz
  have hc_s := hM.rep.s
  obtain ⟨ht7, hfty, hF⟩ := hM.openF hf
  have hFk := hI.fr t f (Nat.le_refl _) hf
  have hvi := hI.ti.vi
  have hcbl := (hM.code f (List.mem_of_getElem? hf)).1.len
  have hcb5 := hFk.cl
  have hcl : f.code.2.1 ≤ 100000 := by omega
  have hpct := hfty.pc
  have hspt := hfty.sp
  have hwdA := fun i => argW_wd hM.ty f i
  have hpcl : f.pc < (f.cb.length : Int) := opc_pc (by rw [hop]; omega)
  obtain ⟨lo, n, hlo, hhi, hszn, hlon, hn32⟩ := hI.mem hM.ty (i := t) (Nat.le_refl _)
  have hbl0 := hI.ti.bl
  have hT : MemT m t lo n := ⟨hI.mtY, by omega, hlo, hhi, hlon, by omega⟩
  have hl1 := (hwdA 1).1
  have hl2 := (hwdA 2).1
  have hl0 := (hwdA 0).1
  have hTAb := addrW_by (m.argW f 1)
  have hTAl := hTAb.1
  have hroom := hI.room hM.ty
  have hself := hfty.self
  have hselfl := hself.1
  have hcallerl := hfty.caller.1
  have hvaluel := hfty.value.1
  have hgast := hfty.gas
  have hfg : f.gas ≤ 1048576 := by have h1 := (gas_bd hI hM.ty (t + 1) (Nat.le_refl _)).2; have h2 := (gas_bd hI hM.ty t (by omega)).1; simp only [gasTo, gasOf_some hf] at h1; omega
  obtain ⟨q1, v1, hv1⟩ : ∃ q1 v1, v.warmT (addrW (m.argW f 1)) = (q1, v1) := ⟨_, _, rfl⟩
  have hwm := warm_adv (A := (addrW (m.argW f 1))) hvi hroom
  rw [hv1] at hwm
  obtain ⟨hq1, dj, da, hadv1, hwa1, hcj, hca, hda1, hdj1, hbal1, hsum1⟩ := hwm
  replace hq1 : q1 = true := hq1
  subst hq1
  replace hadv1 : Adv v v1 dj da 0 := hadv1
  replace hwa1 : v1.isWarmA (addrW (m.argW f 1)) = true := hwa1
  replace hbal1 : ∀ X, v1.bal X = v.bal X := hbal1
  replace hsum1 : sumW v1.sc.bals = sumW v.sc.bals := hsum1
  have hent1 := warm_ent hadv1.vi hwa1
  have hacc : 100 ≤ accW v (addrW (m.argW f 1)) := by rcases accW_bd v (addrW (m.argW f 1)) with h | h <;> omega
  have hflat : isFlat o = false := by rcases ho with h | h | h | h <;> (rw [h]; rfl)
  have hst0 : (infoW o).2.2.1 = 0 := by rcases ho with h | h | h | h <;> (rw [h]; rfl)
  obtain ⟨xd, hdr, hxd, hmcx⟩ := hAd.mc hflat
  rw [hst0] at hxd hmcx
  have hacc1 := hdr.acc1 ho
  have hre := hAd.re hflat
  rw [hszn] at hre
  obtain ⟨K0, hK0e⟩ : ∃ K0 : Fm, K0 = (kF 2 0 f.static (addrW (m.argW f 1)) f.self [0, 0, 0, 0] (none, 0, 0)) := ⟨_, rfl⟩
  have hK0 : FmTy K0 := by rw [hK0e]; exact kF_ty (by decide) (by decide) hTAb hself Wd0
  have hKs0 := (openFB hK0).bd
  have hone := @one_encF K0
  have hks0 : (Value.agg (encF K0).toArray).cells.size = 65 := by have := encF_len hK0; simpa [Value.cells] using this
  have hcd1 : ∀ x ∈ v1.accts, x.code.2.1 ≤ 256 := fun x hx => (hadv1.vi.cd x hx).1
  
  refine Ret_of_W Hvad.func111 rfl rfl ?_
  refine W_seq ?_
  refine W_region rfl ?_
  refine WO_p (PS_move_ptr rfl) ?_
  refine WO_call Hvad.call91 (by rfl) (Ret.mono (running_spec C c v B m t f _ (MS.ext hM (by repeat (first | assumption | exact Ext.refl _ | refine Ext.alloc ?_ _ | refine Ext.drew ?_ | refine Ext.setB ?_ (by first | omega | (simp only [size_alloc, size_setB, size_drew]; omega)) _ | exact Ext.trans (by assumption) (by assumption) | refine Ext.trans ?_ (by assumption)))) hR) ?_)
  rintro _ w91_0 ⟨hE91_0, rfl⟩
  have hz91_0 := hE91_0.1
  try simp only [size_alloc, size_setB, size_drew] at hz91_0
  refine WO_p (PS_assign_ptr rfl) ?_
  refine WO_nil ?_
  refine thn_normal ?_
  refine W_seq ?_
  refine W_seq ?_
  refine W_region rfl ?_
  refine WO_p (PS_move_ptr rfl) ?_
  refine WO_p (PS_eqlnil Hvad.underlying182 rfl) ?_
  refine WO_nil ?_
  refine thn_normal ?_
  refine W_if rfl (fun hb3 => ?_) (fun hb3 => ?_)
  · have hb3p := hb3.h; try simp only [al_ete, al_dfn, Bool.not_eq_true', Bool.not_eq_false', al_ne, Bool.not_not, al_nn] at hb3p
    simp at hb3p --END
  · have hb3p := hb3.h; try simp only [al_ete, al_dfn, Bool.not_eq_true', Bool.not_eq_false', al_ne, Bool.not_not, al_nn] at hb3p
    refine W_skip ?_
    refine thn_normal ?_
    refine W_seq ?_
    refine W_region rfl ?_
    refine WO_p (PS_move_ptr rfl) ?_
    refine WO_p (PS_move_ptr rfl) ?_
    refine WO_call Hvad.call160 (by rfl) (Ret.mono (arg_spec C c v B m t f _ _ (MS.ext hM (by repeat (first | assumption | exact Ext.refl _ | refine Ext.alloc ?_ _ | refine Ext.drew ?_ | refine Ext.setB ?_ (by first | omega | (simp only [size_alloc, size_setB, size_drew]; omega)) _ | exact Ext.trans (by assumption) (by assumption) | refine Ext.trans ?_ (by assumption)))) hA (by omega)) ?_)
    rintro _ w160_3 ⟨hE160_3, rfl⟩
    have hz160_3 := hE160_3.1
    try simp only [size_alloc, size_setB, size_drew] at hz160_3
    refine WO_call Hvad.call189 (by rfl) (Ret.mono (addrOf_spec _ _ (by first | assumption | exact argW_wd hM.ty _ _ | exact Wd0)) ?_)
    rintro _ w189_4 ⟨hE189_4, rfl⟩
    have hz189_4 := hE189_4.1
    try simp only [size_alloc, size_setB, size_drew] at hz189_4
    refine WO_allocG Hvad.zeroValue25 ?_
    intro b3 v3 hg3 hE3 hH3 hl3
    try simp only [size_alloc, size_setB, size_drew] at hg3
    have hzz3 := hE3.1
    try simp only [size_alloc, size_setB, size_drew] at hzz3
    replace hH3 : Hb v3 b3 (.cells (ic .u8 (List.replicate 20 0)) 25 (0, 0)) := hH3
    first | refine WO_storeW Hvad.sizeOf25 rfl (v := .agg _) rfl (Hb.h (by repeat (first | assumption | exact Hb.newY _ _ | refine Hb.alloc ?_ | refine Hb.drew ?_ | refine Hb.ext (by assumption) ?_ | exact Hb.setSameL (by first | omega | (simp only [size_alloc, size_setB, size_drew]; omega)) | exact Hb.setSame (by assumption) | refine Hb.set (by first | omega | (simp only [size_alloc, size_setB, size_drew]; omega)) ?_ ))) rfl (by first | omega | assumption | rfl | decide | exact Nat.le_refl _ | (simp only [size_ic, Value.cells]; omega) | simp) (by first | omega | assumption | rfl | decide | exact Nat.le_refl _ | (simp only [size_ic, Value.cells]; omega) | simp) (by first | exact oneCell_ic | assumption) ?_ | refine WO_store Hvad.sizeOf25 rfl (v := .agg _) rfl (Hb.h (by repeat (first | assumption | exact Hb.newY _ _ | refine Hb.alloc ?_ | refine Hb.drew ?_ | refine Hb.ext (by assumption) ?_ | exact Hb.setSameL (by first | omega | (simp only [size_alloc, size_setB, size_drew]; omega)) | exact Hb.setSame (by assumption) | refine Hb.set (by first | omega | (simp only [size_alloc, size_setB, size_drew]; omega)) ?_ ))) (by first | omega | assumption | rfl | decide | exact Nat.le_refl _ | (simp only [size_ic, Value.cells]; omega) | simp) (by first | omega | assumption | rfl | decide | exact Nat.le_refl _ | (simp only [size_ic, Value.cells]; omega) | simp) (by first | exact oneCell_ic | assumption) ?_
    refine WO_nil ?_
    refine thn_normal ?_
    refine W_seq ?_
    refine W_gen fun w3 hw3 => ?_
    have hE3 : Ext w w3 := by rw [hw3]; exact (by repeat (first | assumption | exact Ext.refl _ | refine Ext.alloc ?_ _ | refine Ext.drew ?_ | refine Ext.setB ?_ (by first | omega | (simp only [size_alloc, size_setB, size_drew]; omega)) _ | exact Ext.trans (by assumption) (by assumption) | refine Ext.trans ?_ (by assumption)))
    have hb33 : Hb w3 b3 (.cells (ic .u8 (addrW (m.argW f 1))) 25 (0, 0)) := by rw [hw3]; exact Hb.mk (Hb.h (by repeat (first | assumption | exact Hb.newY _ _ | refine Hb.alloc ?_ | refine Hb.drew ?_ | refine Hb.ext (by assumption) ?_ | exact Hb.setSameL (by first | omega | (simp only [size_alloc, size_setB, size_drew]; omega)) | exact Hb.setSame (by assumption) | refine Hb.set (by first | omega | (simp only [size_alloc, size_setB, size_drew]; omega)) ?_ )))
    clear hw3
    have hz3 := hE3.1
    obtain ⟨hM3, hS3⟩ := (hM.ext hE3).put_ret (none, 0, 0) (Or.inl ⟨rfl, rfl⟩)
    have hblk3 := (hM.ext hE3).vs.blk
    refine W_region rfl ?_
    refine WO_p (PS_move_ptr rfl) ?_
    refine WO_p (PS_nilCheck rfl) ?_
    refine WO_p (PS_fieldAddr 2259 Hvad.runUnderlying69 rfl Hvad.sizeOf32 rfl rfl) ?_
    refine WO_store1 Hvad.sizeOf32 rfl (v := (.slice _ _ _)) rfl (Hb.h (by repeat (first | assumption | exact Hb.newY _ _ | refine Hb.alloc ?_ | refine Hb.drew ?_ | refine Hb.ext (by assumption) ?_ | exact Hb.setSameL (by first | omega | (simp only [size_alloc, size_setB, size_drew]; omega)) | exact Hb.setSame (by assumption) | refine Hb.set (by first | omega | (simp only [size_alloc, size_setB, size_drew]; omega)) ?_ ))) rfl (by first | omega | assumption | rfl | decide | exact Nat.le_refl _ | (simp only [size_ic, Value.cells]; omega) | simp) rfl ?_
    refine WO_nil ?_
    refine thn_normal ?_
    refine W_seq ?_
    refine W_seq ?_
    have hblk3b := hM3.vs.blk
    refine W_region rfl ?_
    refine WO_p (PS_move_ptr rfl) ?_
    refine WO_loadA _ Hvad.isAgg25 Hvad.sizeOf25 rfl (Hb.h (by repeat (first | assumption | exact Hb.newY _ _ | refine Hb.alloc ?_ | refine Hb.drew ?_ | refine Hb.ext (by assumption) ?_ | exact Hb.setSameL (by first | omega | (simp only [size_alloc, size_setB, size_drew]; omega)) | exact Hb.setSame (by assumption) | refine Hb.set (by first | omega | (simp only [size_alloc, size_setB, size_drew]; omega)) ?_ ))) (by first | omega | assumption | rfl | decide | exact Nat.le_refl _ | (simp only [size_ic, Value.cells]; omega) | simp) (Xt.h (by first | assumption | exact Xt.whole rfl rfl | exact Xt.whole rfl (by simp only [size_ic, Value.cells]; omega) | exact ⟨rfl⟩)) ?_
    refine WO_call Hvad.call190 (by rfl) (Ret.mono (warmAcct_spec C _ v B { m with ret := (none, 0, 0) } (addrW (m.argW f 1)) _ (MS.ext hM3 (by repeat (first | assumption | exact Ext.refl _ | refine Ext.alloc ?_ _ | refine Ext.drew ?_ | refine Ext.setB ?_ (by first | omega | (simp only [size_alloc, size_setB, size_drew]; omega)) _ | exact Ext.trans (by assumption) (by assumption) | refine Ext.trans ?_ (by assumption)))) hTAb) ?_)
    rintro _ w4 ⟨rfl, hR4⟩
    rw [hv1] at hR4 ⊢
    replace hR4 : MRet _ C B { m with ret := (none, 0, 0) } w4 v1 { m with ret := (none, 0, 0) } := hR4
    obtain ⟨c4, B4, hM4, hS4⟩ := hR4
    have hz4 := hS4.keep.sz
    try simp only [size_alloc, size_setB, size_drew] at hz4
    have hb34 := MS.box (MS.ext hM3 (by repeat (first | assumption | exact Ext.refl _ | refine Ext.alloc ?_ _ | refine Ext.drew ?_ | refine Ext.setB ?_ (by first | omega | (simp only [size_alloc, size_setB, size_drew]; omega)) _ | exact Ext.trans (by assumption) (by assumption) | refine Ext.trans ?_ (by assumption)))) hS4 (b := b3) (r := ic .u8 (addrW (m.argW f 1))) (T := 25) (fz := (0, 0)) (Hb.mk (Hb.h (by repeat (first | assumption | exact Hb.newY _ _ | refine Hb.alloc ?_ | refine Hb.drew ?_ | refine Hb.ext (by assumption) ?_ | exact Hb.setSameL (by first | omega | (simp only [size_alloc, size_setB, size_drew]; omega)) | exact Hb.setSame (by assumption) | refine Hb.set (by first | omega | (simp only [size_alloc, size_setB, size_drew]; omega)) ?_ )))) (by decide) (by decide)
    have hb34l := hb34.lt
    have hS4w : MStep w w4 C B m B4 { m with ret := (none, 0, 0) } := ((MStep.ext hE3).trans hS3).trans ((MStep.ext (by repeat (first | assumption | exact Ext.refl _ | refine Ext.alloc ?_ _ | refine Ext.drew ?_ | refine Ext.setB ?_ (by first | omega | (simp only [size_alloc, size_setB, size_drew]; omega)) _ | exact Ext.trans (by assumption) (by assumption) | refine Ext.trans ?_ (by assumption)))).trans hS4)
    have hblk4 := hM4.vs.blk
    have hcs4 := hM4.sz
    have hc_s4 := hM4.rep.s
    obtain ⟨_, _, hF4⟩ := hM4.openF hf
    have hf_static4 := hF4.static
    have hf_self4 := hF4.self
    have hf_caller4 := hF4.caller
    have hf_value4 := hF4.value
    have hf_gas4 := hF4.gas
    have hR4r : Run { m with ret := (none, 0, 0) } t f := ⟨⟨hA.t6, hA.fr, hA.sb, hA.sp⟩, hR.ph, hR.top⟩
    have hA4 := hR4r.fa
    have hAW4 : ∀ i, ({ m with ret := (none, 0, 0) } : Mc).argW f i = m.argW f i := fun i => rfl
    refine WO_p (PS_not rfl) ?_
    refine WO_nil ?_
    refine thn_normal ?_
    refine W_if rfl (fun hb9 => ?_) (fun hb9 => ?_)
    · have hb9p := hb9.h; try simp only [al_ete, al_dfn, Bool.not_eq_true', Bool.not_eq_false', al_ne, Bool.not_not, al_nn] at hb9p
      simp at hb9p --END
    · have hb9p := hb9.h; try simp only [al_ete, al_dfn, Bool.not_eq_true', Bool.not_eq_false', al_ne, Bool.not_not, al_nn] at hb9p
      refine W_skip ?_
      refine thn_normal ?_
      refine W_seq ?_
      refine W_drawE [false, false, false, false, false, false, false, false, false, false, true, false] hmix (by kernel_rfl) rfl ?_
      refine WH_p (PS_move_ptr rfl) rfl ?_
      refine WH_p (PS_nilCheck rfl) rfl ?_
      refine WH_p (PS_fieldAddr 3 Hvad.runUnderlying65 rfl Hvad.sizeOf4 rfl rfl) rfl ?_
      refine WH_load (.bool _) Hvad.isAgg4 rfl (Hb.h (by repeat (first | assumption | exact Hb.newY _ _ | refine Hb.alloc ?_ | refine Hb.drew ?_ | refine Hb.ext (by assumption) ?_ | exact Hb.setSameL (by first | omega | (simp only [size_alloc, size_setB, size_drew]; omega)) | exact Hb.setSame (by assumption) | refine Hb.set (by first | omega | (simp only [size_alloc, size_setB, size_drew]; omega)) ?_ ))) (Ce.h (by first | assumption | exact ⟨rfl⟩)) ?_
      refine WH_loadA _ Hvad.isAgg25 Hvad.sizeOf25 rfl (Hb.h (by repeat (first | assumption | exact Hb.newY _ _ | refine Hb.alloc ?_ | refine Hb.drew ?_ | refine Hb.ext (by assumption) ?_ | exact Hb.setSameL (by first | omega | (simp only [size_alloc, size_setB, size_drew]; omega)) | exact Hb.setSame (by assumption) | refine Hb.set (by first | omega | (simp only [size_alloc, size_setB, size_drew]; omega)) ?_ ))) (by first | omega | assumption | rfl | decide | exact Nat.le_refl _ | (simp only [size_ic, Value.cells]; omega) | simp) (Xt.h (by first | assumption | exact Xt.whole rfl rfl | exact Xt.whole rfl (by simp only [size_ic, Value.cells]; omega) | exact ⟨rfl⟩)) ?_
      refine WH_p (PS_move_ptr rfl) rfl ?_
      refine WH_p (PS_nilCheck rfl) rfl ?_
      refine WH_p (PS_fieldAddr 9 Hvad.runUnderlying65 rfl Hvad.sizeOf25 rfl rfl) rfl ?_
      refine WH_loadA _ Hvad.isAgg25 Hvad.sizeOf25 rfl (Hb.h (by repeat (first | assumption | exact Hb.newY _ _ | refine Hb.alloc ?_ | refine Hb.drew ?_ | refine Hb.ext (by assumption) ?_ | exact Hb.setSameL (by first | omega | (simp only [size_alloc, size_setB, size_drew]; omega)) | exact Hb.setSame (by assumption) | refine Hb.set (by first | omega | (simp only [size_alloc, size_setB, size_drew]; omega)) ?_ ))) (by first | omega | assumption | rfl | decide | exact Nat.le_refl _ | (simp only [size_ic, Value.cells]; omega) | simp) (Xt.h (by first | assumption | exact Xt.whole rfl rfl | exact Xt.whole rfl (by simp only [size_ic, Value.cells]; omega) | exact ⟨rfl⟩)) ?_
      refine WH_p (PS_b65_0_3_9_10 rfl rfl rfl hTAl rfl hselfl) rfl ?_
      rw [← hK0e]
      refine WH_allocG Hvad.zeroValue65 ?_
      intro b4 v4 hg4 hE4 hH4 hl4
      try simp only [size_alloc, size_setB, size_drew] at hg4
      have hzz4 := hE4.1
      try simp only [size_alloc, size_setB, size_drew] at hzz4
      replace hH4 : Hb v4 b4 (.cells ((encF zF).toArray) 65 (0, 0)) := hH4
      refine ⟨fun _ => (by repeat (first | assumption | exact Ext.refl _ | refine Ext.alloc ?_ _ | refine Ext.drew ?_ | refine Ext.setB ?_ (by first | omega | (simp only [size_alloc, size_setB, size_drew]; omega)) _ | exact Ext.trans (by assumption) (by assumption) | refine Ext.trans ?_ (by assumption))), ?_⟩
      refine WH_storeW Hvad.sizeOf65 rfl (v := .agg _) rfl (Hb.h (by repeat (first | assumption | exact Hb.newY _ _ | refine Hb.alloc ?_ | refine Hb.drew ?_ | refine Hb.ext (by assumption) ?_ | exact Hb.setSameL (by first | omega | (simp only [size_alloc, size_setB, size_drew]; omega)) | exact Hb.setSame (by assumption) | refine Hb.set (by first | omega | (simp only [size_alloc, size_setB, size_drew]; omega)) ?_ ))) rfl hks0 (by decide) hone (fun h => by cases h) ?_
      change WH _ _ _ _ _ _ (setB _ _ (.cells (encF K0).toArray 65 (0, 0)))
      refine WH_nil ?_
      refine thn_normal ?_
      refine W_seq ?_
      refine W_region rfl ?_
      refine WO_p (PS_assign_int rfl) ?_
      refine WO_nil ?_
      refine thn_normal ?_
      refine W_seq ?_
      refine W_region rfl ?_
      refine WO_p (PS_buildI (k := .u64) (zs := [0, 0, 0, 0]) (ps := []) (L := [0, 0, 0, 0]) Hvad.zeroValue59 Hvad.runUnderlying59 Hvad.sizeOf26 rfl rfl rfl rfl) ?_
      refine WO_allocG Hvad.zeroValue59 ?_
      intro b6 v6 hg6 hE6 hH6 hl6
      try simp only [size_alloc, size_setB, size_drew] at hg6
      have hzz6 := hE6.1
      try simp only [size_alloc, size_setB, size_drew] at hzz6
      replace hH6 : Hb v6 b6 (.cells (ic .u64 [0, 0, 0, 0]) 59 (0, 0)) := hH6
      first | refine WO_storeW Hvad.sizeOf59 rfl (v := .agg _) rfl (Hb.h (by repeat (first | assumption | exact Hb.newY _ _ | refine Hb.alloc ?_ | refine Hb.drew ?_ | refine Hb.ext (by assumption) ?_ | exact Hb.setSameL (by first | omega | (simp only [size_alloc, size_setB, size_drew]; omega)) | exact Hb.setSame (by assumption) | refine Hb.set (by first | omega | (simp only [size_alloc, size_setB, size_drew]; omega)) ?_ ))) rfl (by first | omega | assumption | rfl | decide | exact Nat.le_refl _ | (simp only [size_ic, Value.cells]; omega) | simp) (by first | omega | assumption | rfl | decide | exact Nat.le_refl _ | (simp only [size_ic, Value.cells]; omega) | simp) (by first | exact oneCell_ic | assumption) ?_ | refine WO_store Hvad.sizeOf59 rfl (v := .agg _) rfl (Hb.h (by repeat (first | assumption | exact Hb.newY _ _ | refine Hb.alloc ?_ | refine Hb.drew ?_ | refine Hb.ext (by assumption) ?_ | exact Hb.setSameL (by first | omega | (simp only [size_alloc, size_setB, size_drew]; omega)) | exact Hb.setSame (by assumption) | refine Hb.set (by first | omega | (simp only [size_alloc, size_setB, size_drew]; omega)) ?_ ))) (by first | omega | assumption | rfl | decide | exact Nat.le_refl _ | (simp only [size_ic, Value.cells]; omega) | simp) (by first | omega | assumption | rfl | decide | exact Nat.le_refl _ | (simp only [size_ic, Value.cells]; omega) | simp) (by first | exact oneCell_ic | assumption) ?_
      refine WO_nil ?_
      refine thn_normal ?_
      refine W_seqJ (fun ρ w' => ∃ (K : Fm) (val : List Int) (inn : Int), Fr [(0, .pointer (some ⟨C, 0, none⟩)), (2, .pointer (some ⟨C, 1803 + t * 65, none⟩)), (3, .pointer (some ⟨b3, 0, none⟩)), (4, .pointer (some ⟨b4, 0, none⟩)), (5, .int .i64 inn), (6, .pointer (some ⟨b6, 0, none⟩))] ρ ∧ Ext w4 w' ∧ v6.heap.size ≤ w'.heap.size ∧ Hb w' b3 (.cells (ic .u8 (addrW (m.argW f 1))) 25 (0, 0)) ∧ Hb w' b4 (.cells (encF K).toArray 65 (0, 0)) ∧ Hb w' b6 (.cells (ic .u64 val) 59 (0, 0)) ∧ CallK m f o n (addrW (m.argW f 1)) K val inn) ?_ ?_
      · skip
        refine W_seq ?_
        refine W_region rfl ?_
        refine WO_p (PS_move_ptr rfl) ?_
        refine WO_call Hvad.call49 (by rfl) (Ret.mono (opcode_spec C c4 v1 B4 { m with ret := (none, 0, 0) } t f _ (MS.ext hM4 (by repeat (first | assumption | exact Ext.refl _ | refine Ext.alloc ?_ _ | refine Ext.drew ?_ | refine Ext.setB ?_ (by first | omega | (simp only [size_alloc, size_setB, size_drew]; omega)) _ | exact Ext.trans (by assumption) (by assumption) | refine Ext.trans ?_ (by assumption)))) hR4r hcl) ?_)
        rintro _ w49_10 ⟨hE49_10, rfl⟩
        have hz49_10 := hE49_10.1
        try simp only [size_alloc, size_setB, size_drew] at hz49_10
        rw [hop]
        refine WO_nil ?_
        refine thn_normal ?_
        refine W_block ?_
        refine W_seq ?_
        refine W_region rfl ?_
        refine WO_p (PS_eql rfl rfl) ?_
        refine WO_p (PS_assign_bool rfl) ?_
        refine WO_nil ?_
        refine thn_normal ?_
        refine W_if rfl (fun hb13 => ?_) (fun hb13 => ?_)
        · have hb13p := hb13.h; try simp only [al_ete, al_dfn, Bool.not_eq_true', Bool.not_eq_false', al_ne, Bool.not_not, al_nn] at hb13p
          have hoo : o = 241 := by omega
          have hcr := callR (inn := 3) hM.ty hre (by omega)
          have hin : (7 : Int) ≤ f.sp ∧ f.sp - 7 + 1 ≤ 64 := by have h := hk; rw [show o = 241 from by omega] at h; exact h
          
          refine W_seq ?_
          refine W_region rfl ?_
          refine WO_p (PS_assign_int rfl) ?_
          refine WO_nil ?_
          refine thn_normal ?_
          refine W_seq ?_
          refine W_region rfl ?_
          refine WO_p (PS_move_ptr rfl) ?_
          refine WO_p (PS_move_ptr rfl) ?_
          refine WO_call Hvad.call160 (by rfl) (Ret.mono (arg_spec C c4 v1 B4 { m with ret := (none, 0, 0) } t f _ _ (MS.ext hM4 (by repeat (first | assumption | exact Ext.refl _ | refine Ext.alloc ?_ _ | refine Ext.drew ?_ | refine Ext.setB ?_ (by first | omega | (simp only [size_alloc, size_setB, size_drew]; omega)) _ | exact Ext.trans (by assumption) (by assumption) | refine Ext.trans ?_ (by assumption)))) hA4 (by omega)) ?_)
          rintro _ w160_13 ⟨hE160_13, rfl⟩
          have hz160_13 := hE160_13.1
          try simp only [size_alloc, size_setB, size_drew] at hz160_13
          rw [hAW4]
          refine WO_storeW Hvad.sizeOf59 rfl (v := .agg _) rfl (Hb.h (by repeat (first | assumption | exact Hb.newY _ _ | refine Hb.alloc ?_ | refine Hb.drew ?_ | refine Hb.ext (by assumption) ?_ | exact Hb.setSameL (by first | omega | (simp only [size_alloc, size_setB, size_drew]; omega)) | exact Hb.setSame (by assumption) | refine Hb.set (by first | omega | (simp only [size_alloc, size_setB, size_drew]; omega)) ?_ ))) rfl (by first | omega | assumption | rfl | decide | exact Nat.le_refl _ | (simp only [size_ic, Value.cells]; omega) | simp) (by first | omega | assumption | rfl | decide | exact Nat.le_refl _ | (simp only [size_ic, Value.cells]; omega) | simp) (by first | exact oneCell_ic | assumption) ?_
          change WO _ _ _ _ _ (setB _ _ (.cells (ic .u64 (m.argW f 2)) 59 (0, 0)))
          refine WO_nil ?_
          refine thn_normal ?_
          refine W_region rfl ?_
          refine WO_loadA _ Hvad.isAgg59 Hvad.sizeOf59 rfl (Hb.h (by repeat (first | assumption | exact Hb.newY _ _ | refine Hb.alloc ?_ | refine Hb.drew ?_ | refine Hb.ext (by assumption) ?_ | exact Hb.setSameL (by first | omega | (simp only [size_alloc, size_setB, size_drew]; omega)) | exact Hb.setSame (by assumption) | refine Hb.set (by first | omega | (simp only [size_alloc, size_setB, size_drew]; omega)) ?_ ))) (by first | omega | assumption | rfl | decide | exact Nat.le_refl _ | (simp only [size_ic, Value.cells]; omega) | simp) (Xt.h (by first | assumption | exact Xt.whole rfl rfl | exact Xt.whole rfl (by simp only [size_ic, Value.cells]; omega) | exact ⟨rfl⟩)) ?_
          refine WO_p (PS_fieldAddr 49 Hvad.runUnderlying65 rfl Hvad.sizeOf59 rfl rfl) ?_
          refine WO_store Hvad.sizeOf59 rfl (v := .agg _) rfl (Hb.h (by repeat (first | assumption | exact Hb.newY _ _ | refine Hb.alloc ?_ | refine Hb.drew ?_ | refine Hb.ext (by assumption) ?_ | exact Hb.setSameL (by first | omega | (simp only [size_alloc, size_setB, size_drew]; omega)) | exact Hb.setSame (by assumption) | refine Hb.set (by first | omega | (simp only [size_alloc, size_setB, size_drew]; omega)) ?_ ))) (by simp only [size_ic, Value.cells]; omega) (by have := (openFB hK0).bd; omega) oneCell_ic ?_
          rw [fs_value hK0 hl2]
          refine WO_nil ?_
          refine inBlk_normal ?_
          refine thn_normal ?_
          exact ⟨(K0.sValue (m.argW f 2)), m.argW f 2, 3, ⟨rfl, rfl, rfl, rfl, rfl, rfl, trivial⟩, (by repeat (first | assumption | exact Ext.refl _ | refine Ext.alloc ?_ _ | refine Ext.drew ?_ | refine Ext.setB ?_ (by first | omega | (simp only [size_alloc, size_setB, size_drew]; omega)) _ | exact Ext.trans (by assumption) (by assumption) | refine Ext.trans ?_ (by assumption))), by first | omega | (simp only [size_setB]; omega), Hb.mk (Hb.h (by repeat (first | assumption | exact Hb.newY _ _ | refine Hb.alloc ?_ | refine Hb.drew ?_ | refine Hb.ext (by assumption) ?_ | exact Hb.setSameL (by first | omega | (simp only [size_alloc, size_setB, size_drew]; omega)) | exact Hb.setSame (by assumption) | refine Hb.set (by first | omega | (simp only [size_alloc, size_setB, size_drew]; omega)) ?_ ))), Hb.mk (Hb.h (by repeat (first | assumption | exact Hb.newY _ _ | refine Hb.alloc ?_ | refine Hb.drew ?_ | refine Hb.ext (by assumption) ?_ | exact Hb.setSameL (by first | omega | (simp only [size_alloc, size_setB, size_drew]; omega)) | exact Hb.setSame (by assumption) | refine Hb.set (by first | omega | (simp only [size_alloc, size_setB, size_drew]; omega)) ?_ ))), Hb.mk (Hb.h (by repeat (first | assumption | exact Hb.newY _ _ | refine Hb.alloc ?_ | refine Hb.drew ?_ | refine Hb.ext (by assumption) ?_ | exact Hb.setSameL (by first | omega | (simp only [size_alloc, size_setB, size_drew]; omega)) | exact Hb.setSame (by assumption) | refine Hb.set (by first | omega | (simp only [size_alloc, size_setB, size_drew]; omega)) ?_ ))), (by subst hK0e; exact ⟨hK0.sValue (hwdA 2), hwdA 2, ⟨_, _, _, _, _, rfl⟩, Or.inl rfl, by rw [hoo]; rfl, Or.inl rfl, fun _ _ => ⟨rfl, rfl⟩, Or.inr rfl, by rw [hoo]; rfl, fun h => ⟨h, Or.inl hoo⟩, hcr.1, hcr.2⟩)⟩
        · have hb13p := hb13.h; try simp only [al_ete, al_dfn, Bool.not_eq_true', Bool.not_eq_false', al_ne, Bool.not_not, al_nn] at hb13p
          refine W_seq ?_
          refine W_region rfl ?_
          refine WO_p (PS_eql rfl rfl) ?_
          refine WO_p (PS_assign_bool rfl) ?_
          refine WO_nil ?_
          refine thn_normal ?_
          refine W_if rfl (fun hb16 => ?_) (fun hb16 => ?_)
          · have hb16p := hb16.h; try simp only [al_ete, al_dfn, Bool.not_eq_true', Bool.not_eq_false', al_ne, Bool.not_not, al_nn] at hb16p
            have hoo : o = 242 := by omega
            have hcr := callR (inn := 3) hM.ty hre (by omega)
            have hin : (7 : Int) ≤ f.sp ∧ f.sp - 7 + 1 ≤ 64 := by have h := hk; rw [show o = 242 from by omega] at h; exact h
            have hKA : FmTy (K0.sValue (m.argW f 2)) := hK0.sValue (hwdA 2)
            have hKB2 : FmTy ((K0.sValue (m.argW f 2)).sKind 7) := hKA.sKind (by decide)
            have hKBt : FmTy (((K0.sValue (m.argW f 2)).sKind 7).sSelf f.self) := hKB2.sSelf hself
            refine W_seq ?_
            refine W_region rfl ?_
            refine WO_p (PS_assign_int rfl) ?_
            refine WO_nil ?_
            refine thn_normal ?_
            refine W_seq ?_
            refine W_region rfl ?_
            refine WO_p (PS_move_ptr rfl) ?_
            refine WO_p (PS_move_ptr rfl) ?_
            refine WO_call Hvad.call160 (by rfl) (Ret.mono (arg_spec C c4 v1 B4 { m with ret := (none, 0, 0) } t f _ _ (MS.ext hM4 (by repeat (first | assumption | exact Ext.refl _ | refine Ext.alloc ?_ _ | refine Ext.drew ?_ | refine Ext.setB ?_ (by first | omega | (simp only [size_alloc, size_setB, size_drew]; omega)) _ | exact Ext.trans (by assumption) (by assumption) | refine Ext.trans ?_ (by assumption)))) hA4 (by omega)) ?_)
            rintro _ w160_16 ⟨hE160_16, rfl⟩
            have hz160_16 := hE160_16.1
            try simp only [size_alloc, size_setB, size_drew] at hz160_16
            rw [hAW4]
            refine WO_storeW Hvad.sizeOf59 rfl (v := .agg _) rfl (Hb.h (by repeat (first | assumption | exact Hb.newY _ _ | refine Hb.alloc ?_ | refine Hb.drew ?_ | refine Hb.ext (by assumption) ?_ | exact Hb.setSameL (by first | omega | (simp only [size_alloc, size_setB, size_drew]; omega)) | exact Hb.setSame (by assumption) | refine Hb.set (by first | omega | (simp only [size_alloc, size_setB, size_drew]; omega)) ?_ ))) rfl (by first | omega | assumption | rfl | decide | exact Nat.le_refl _ | (simp only [size_ic, Value.cells]; omega) | simp) (by first | omega | assumption | rfl | decide | exact Nat.le_refl _ | (simp only [size_ic, Value.cells]; omega) | simp) (by first | exact oneCell_ic | assumption) ?_
            change WO _ _ _ _ _ (setB _ _ (.cells (ic .u64 (m.argW f 2)) 59 (0, 0)))
            refine WO_nil ?_
            refine thn_normal ?_
            refine W_seq ?_
            refine W_region rfl ?_
            refine WO_loadA _ Hvad.isAgg59 Hvad.sizeOf59 rfl (Hb.h (by repeat (first | assumption | exact Hb.newY _ _ | refine Hb.alloc ?_ | refine Hb.drew ?_ | refine Hb.ext (by assumption) ?_ | exact Hb.setSameL (by first | omega | (simp only [size_alloc, size_setB, size_drew]; omega)) | exact Hb.setSame (by assumption) | refine Hb.set (by first | omega | (simp only [size_alloc, size_setB, size_drew]; omega)) ?_ ))) (by first | omega | assumption | rfl | decide | exact Nat.le_refl _ | (simp only [size_ic, Value.cells]; omega) | simp) (Xt.h (by first | assumption | exact Xt.whole rfl rfl | exact Xt.whole rfl (by simp only [size_ic, Value.cells]; omega) | exact ⟨rfl⟩)) ?_
            refine WO_p (PS_fieldAddr 49 Hvad.runUnderlying65 rfl Hvad.sizeOf59 rfl rfl) ?_
            refine WO_store Hvad.sizeOf59 rfl (v := .agg _) rfl (Hb.h (by repeat (first | assumption | exact Hb.newY _ _ | refine Hb.alloc ?_ | refine Hb.drew ?_ | refine Hb.ext (by assumption) ?_ | exact Hb.setSameL (by first | omega | (simp only [size_alloc, size_setB, size_drew]; omega)) | exact Hb.setSame (by assumption) | refine Hb.set (by first | omega | (simp only [size_alloc, size_setB, size_drew]; omega)) ?_ ))) (by simp only [size_ic, Value.cells]; omega) (by have := (openFB hK0).bd; omega) oneCell_ic ?_
            rw [fs_value hK0 hl2]
            refine WO_nil ?_
            refine thn_normal ?_
            refine W_seq ?_
            refine W_region rfl ?_
            refine WO_p (PS_fieldAddr 0 Hvad.runUnderlying65 rfl Hvad.sizeOf5 rfl rfl) ?_
            refine WO_store1 Hvad.sizeOf5 rfl (v := .int _ _) rfl (Hb.h (by repeat (first | assumption | exact Hb.newY _ _ | refine Hb.alloc ?_ | refine Hb.drew ?_ | refine Hb.ext (by assumption) ?_ | exact Hb.setSameL (by first | omega | (simp only [size_alloc, size_setB, size_drew]; omega)) | exact Hb.setSame (by assumption) | refine Hb.set (by first | omega | (simp only [size_alloc, size_setB, size_drew]; omega)) ?_ ))) rfl (by have := (openFB hKA).bd; omega) rfl ?_
            rw [fs_kind]
            refine WO_nil ?_
            refine thn_normal ?_
            refine W_region rfl ?_
            refine WO_p (PS_move_ptr rfl) ?_
            refine WO_p (PS_nilCheck rfl) ?_
            refine WO_p (PS_fieldAddr 9 Hvad.runUnderlying65 rfl Hvad.sizeOf25 rfl rfl) ?_
            refine WO_loadA _ Hvad.isAgg25 Hvad.sizeOf25 rfl (Hb.h (by repeat (first | assumption | exact Hb.newY _ _ | refine Hb.alloc ?_ | refine Hb.drew ?_ | refine Hb.ext (by assumption) ?_ | exact Hb.setSameL (by first | omega | (simp only [size_alloc, size_setB, size_drew]; omega)) | exact Hb.setSame (by assumption) | refine Hb.set (by first | omega | (simp only [size_alloc, size_setB, size_drew]; omega)) ?_ ))) (by first | omega | assumption | rfl | decide | exact Nat.le_refl _ | (simp only [size_ic, Value.cells]; omega) | simp) (Xt.h (by first | assumption | exact Xt.whole rfl rfl | exact Xt.whole rfl (by simp only [size_ic, Value.cells]; omega) | exact ⟨rfl⟩)) ?_
            refine WO_p (PS_fieldAddr 9 Hvad.runUnderlying65 rfl Hvad.sizeOf25 rfl rfl) ?_
            refine WO_store Hvad.sizeOf25 rfl (v := .agg _) rfl (Hb.h (by repeat (first | assumption | exact Hb.newY _ _ | refine Hb.alloc ?_ | refine Hb.drew ?_ | refine Hb.ext (by assumption) ?_ | exact Hb.setSameL (by first | omega | (simp only [size_alloc, size_setB, size_drew]; omega)) | exact Hb.setSame (by assumption) | refine Hb.set (by first | omega | (simp only [size_alloc, size_setB, size_drew]; omega)) ?_ ))) (by simp only [size_ic, Value.cells]; omega) (by have := (openFB hKB2).bd; omega) oneCell_ic ?_
            rw [fs_self hKB2 hselfl]
            refine WO_nil ?_
            refine inBlk_normal ?_
            refine thn_normal ?_
            exact ⟨(((K0.sValue (m.argW f 2)).sKind 7).sSelf f.self), m.argW f 2, 3, ⟨rfl, rfl, rfl, rfl, rfl, rfl, trivial⟩, (by repeat (first | assumption | exact Ext.refl _ | refine Ext.alloc ?_ _ | refine Ext.drew ?_ | refine Ext.setB ?_ (by first | omega | (simp only [size_alloc, size_setB, size_drew]; omega)) _ | exact Ext.trans (by assumption) (by assumption) | refine Ext.trans ?_ (by assumption))), by first | omega | (simp only [size_setB]; omega), Hb.mk (Hb.h (by repeat (first | assumption | exact Hb.newY _ _ | refine Hb.alloc ?_ | refine Hb.drew ?_ | refine Hb.ext (by assumption) ?_ | exact Hb.setSameL (by first | omega | (simp only [size_alloc, size_setB, size_drew]; omega)) | exact Hb.setSame (by assumption) | refine Hb.set (by first | omega | (simp only [size_alloc, size_setB, size_drew]; omega)) ?_ ))), Hb.mk (Hb.h (by repeat (first | assumption | exact Hb.newY _ _ | refine Hb.alloc ?_ | refine Hb.drew ?_ | refine Hb.ext (by assumption) ?_ | exact Hb.setSameL (by first | omega | (simp only [size_alloc, size_setB, size_drew]; omega)) | exact Hb.setSame (by assumption) | refine Hb.set (by first | omega | (simp only [size_alloc, size_setB, size_drew]; omega)) ?_ ))), Hb.mk (Hb.h (by repeat (first | assumption | exact Hb.newY _ _ | refine Hb.alloc ?_ | refine Hb.drew ?_ | refine Hb.ext (by assumption) ?_ | exact Hb.setSameL (by first | omega | (simp only [size_alloc, size_setB, size_drew]; omega)) | exact Hb.setSame (by assumption) | refine Hb.set (by first | omega | (simp only [size_alloc, size_setB, size_drew]; omega)) ?_ ))), (by subst hK0e; exact ⟨hKBt, hwdA 2, ⟨_, _, _, _, _, rfl⟩, Or.inr (Or.inr (Or.inr rfl)), by rw [hoo]; rfl, Or.inr rfl, fun _ h => absurd rfl h, Or.inr rfl, by rw [hoo]; rfl, fun h => ⟨h, Or.inr hoo⟩, hcr.1, hcr.2⟩)⟩
          · have hb16p := hb16.h; try simp only [al_ete, al_dfn, Bool.not_eq_true', Bool.not_eq_false', al_ne, Bool.not_not, al_nn] at hb16p
            refine W_seq ?_
            refine W_region rfl ?_
            refine WO_p (PS_eql rfl rfl) ?_
            refine WO_p (PS_assign_bool rfl) ?_
            refine WO_nil ?_
            refine thn_normal ?_
            refine W_if rfl (fun hb19 => ?_) (fun hb19 => ?_)
            · have hb19p := hb19.h; try simp only [al_ete, al_dfn, Bool.not_eq_true', Bool.not_eq_false', al_ne, Bool.not_not, al_nn] at hb19p
              have hoo : o = 244 := by omega
              have hcr := callR (inn := 2) hM.ty hre (by omega)
              have hin : (6 : Int) ≤ f.sp ∧ f.sp - 6 + 1 ≤ 64 := by have h := hk; rw [show o = 244 from by omega] at h; exact h
              have hKC1 : FmTy (K0.sKind 3) := hK0.sKind (by decide)
              have hKCt2 : FmTy ((K0.sKind 3).sSelf f.self) := hKC1.sSelf hself
              have hKCt3 : FmTy (((K0.sKind 3).sSelf f.self).sCaller f.caller) := hKCt2.sCaller hfty.caller
              have hKCt4 : FmTy ((((K0.sKind 3).sSelf f.self).sCaller f.caller).sValue f.value) := hKCt3.sValue hfty.value
              refine W_seq ?_
              refine W_region rfl ?_
              refine WO_p (PS_fieldAddr 0 Hvad.runUnderlying65 rfl Hvad.sizeOf5 rfl rfl) ?_
              refine WO_store1 Hvad.sizeOf5 rfl (v := .int _ _) rfl (Hb.h (by repeat (first | assumption | exact Hb.newY _ _ | refine Hb.alloc ?_ | refine Hb.drew ?_ | refine Hb.ext (by assumption) ?_ | exact Hb.setSameL (by first | omega | (simp only [size_alloc, size_setB, size_drew]; omega)) | exact Hb.setSame (by assumption) | refine Hb.set (by first | omega | (simp only [size_alloc, size_setB, size_drew]; omega)) ?_ ))) rfl (by have := (openFB hK0).bd; omega) rfl ?_
              rw [fs_kind]
              refine WO_nil ?_
              refine thn_normal ?_
              refine W_seq ?_
              refine W_region rfl ?_
              refine WO_p (PS_move_ptr rfl) ?_
              refine WO_p (PS_nilCheck rfl) ?_
              refine WO_p (PS_fieldAddr 9 Hvad.runUnderlying65 rfl Hvad.sizeOf25 rfl rfl) ?_
              refine WO_loadA _ Hvad.isAgg25 Hvad.sizeOf25 rfl (Hb.h (by repeat (first | assumption | exact Hb.newY _ _ | refine Hb.alloc ?_ | refine Hb.drew ?_ | refine Hb.ext (by assumption) ?_ | exact Hb.setSameL (by first | omega | (simp only [size_alloc, size_setB, size_drew]; omega)) | exact Hb.setSame (by assumption) | refine Hb.set (by first | omega | (simp only [size_alloc, size_setB, size_drew]; omega)) ?_ ))) (by first | omega | assumption | rfl | decide | exact Nat.le_refl _ | (simp only [size_ic, Value.cells]; omega) | simp) (Xt.h (by first | assumption | exact Xt.whole rfl rfl | exact Xt.whole rfl (by simp only [size_ic, Value.cells]; omega) | exact ⟨rfl⟩)) ?_
              refine WO_p (PS_fieldAddr 9 Hvad.runUnderlying65 rfl Hvad.sizeOf25 rfl rfl) ?_
              refine WO_store Hvad.sizeOf25 rfl (v := .agg _) rfl (Hb.h (by repeat (first | assumption | exact Hb.newY _ _ | refine Hb.alloc ?_ | refine Hb.drew ?_ | refine Hb.ext (by assumption) ?_ | exact Hb.setSameL (by first | omega | (simp only [size_alloc, size_setB, size_drew]; omega)) | exact Hb.setSame (by assumption) | refine Hb.set (by first | omega | (simp only [size_alloc, size_setB, size_drew]; omega)) ?_ ))) (by simp only [size_ic, Value.cells]; omega) (by have := (openFB hKC1).bd; omega) oneCell_ic ?_
              rw [fs_self hKC1 hselfl]
              refine WO_nil ?_
              refine thn_normal ?_
              refine W_seq ?_
              refine W_region rfl ?_
              refine WO_p (PS_move_ptr rfl) ?_
              refine WO_p (PS_nilCheck rfl) ?_
              refine WO_p (PS_fieldAddr 29 Hvad.runUnderlying65 rfl Hvad.sizeOf25 rfl rfl) ?_
              refine WO_loadA _ Hvad.isAgg25 Hvad.sizeOf25 rfl (Hb.h (by repeat (first | assumption | exact Hb.newY _ _ | refine Hb.alloc ?_ | refine Hb.drew ?_ | refine Hb.ext (by assumption) ?_ | exact Hb.setSameL (by first | omega | (simp only [size_alloc, size_setB, size_drew]; omega)) | exact Hb.setSame (by assumption) | refine Hb.set (by first | omega | (simp only [size_alloc, size_setB, size_drew]; omega)) ?_ ))) (by first | omega | assumption | rfl | decide | exact Nat.le_refl _ | (simp only [size_ic, Value.cells]; omega) | simp) (Xt.h (by first | assumption | exact Xt.whole rfl rfl | exact Xt.whole rfl (by simp only [size_ic, Value.cells]; omega) | exact ⟨rfl⟩)) ?_
              refine WO_p (PS_fieldAddr 29 Hvad.runUnderlying65 rfl Hvad.sizeOf25 rfl rfl) ?_
              refine WO_store Hvad.sizeOf25 rfl (v := .agg _) rfl (Hb.h (by repeat (first | assumption | exact Hb.newY _ _ | refine Hb.alloc ?_ | refine Hb.drew ?_ | refine Hb.ext (by assumption) ?_ | exact Hb.setSameL (by first | omega | (simp only [size_alloc, size_setB, size_drew]; omega)) | exact Hb.setSame (by assumption) | refine Hb.set (by first | omega | (simp only [size_alloc, size_setB, size_drew]; omega)) ?_ ))) (by simp only [size_ic, Value.cells]; omega) (by have := (openFB hKCt2).bd; omega) oneCell_ic ?_
              rw [fs_caller hKCt2 hcallerl]
              refine WO_nil ?_
              refine thn_normal ?_
              refine W_region rfl ?_
              refine WO_p (PS_move_ptr rfl) ?_
              refine WO_p (PS_nilCheck rfl) ?_
              refine WO_p (PS_fieldAddr 49 Hvad.runUnderlying65 rfl Hvad.sizeOf59 rfl rfl) ?_
              refine WO_loadA _ Hvad.isAgg59 Hvad.sizeOf59 rfl (Hb.h (by repeat (first | assumption | exact Hb.newY _ _ | refine Hb.alloc ?_ | refine Hb.drew ?_ | refine Hb.ext (by assumption) ?_ | exact Hb.setSameL (by first | omega | (simp only [size_alloc, size_setB, size_drew]; omega)) | exact Hb.setSame (by assumption) | refine Hb.set (by first | omega | (simp only [size_alloc, size_setB, size_drew]; omega)) ?_ ))) (by first | omega | assumption | rfl | decide | exact Nat.le_refl _ | (simp only [size_ic, Value.cells]; omega) | simp) (Xt.h (by first | assumption | exact Xt.whole rfl rfl | exact Xt.whole rfl (by simp only [size_ic, Value.cells]; omega) | exact ⟨rfl⟩)) ?_
              refine WO_p (PS_fieldAddr 49 Hvad.runUnderlying65 rfl Hvad.sizeOf59 rfl rfl) ?_
              refine WO_store Hvad.sizeOf59 rfl (v := .agg _) rfl (Hb.h (by repeat (first | assumption | exact Hb.newY _ _ | refine Hb.alloc ?_ | refine Hb.drew ?_ | refine Hb.ext (by assumption) ?_ | exact Hb.setSameL (by first | omega | (simp only [size_alloc, size_setB, size_drew]; omega)) | exact Hb.setSame (by assumption) | refine Hb.set (by first | omega | (simp only [size_alloc, size_setB, size_drew]; omega)) ?_ ))) (by simp only [size_ic, Value.cells]; omega) (by have := (openFB hKCt3).bd; omega) oneCell_ic ?_
              rw [fs_value hKCt3 hvaluel]
              refine WO_nil ?_
              refine inBlk_normal ?_
              refine thn_normal ?_
              exact ⟨((((K0.sKind 3).sSelf f.self).sCaller f.caller).sValue f.value), [0, 0, 0, 0], 2, ⟨rfl, rfl, rfl, rfl, rfl, rfl, trivial⟩, (by repeat (first | assumption | exact Ext.refl _ | refine Ext.alloc ?_ _ | refine Ext.drew ?_ | refine Ext.setB ?_ (by first | omega | (simp only [size_alloc, size_setB, size_drew]; omega)) _ | exact Ext.trans (by assumption) (by assumption) | refine Ext.trans ?_ (by assumption))), by first | omega | (simp only [size_setB]; omega), Hb.mk (Hb.h (by repeat (first | assumption | exact Hb.newY _ _ | refine Hb.alloc ?_ | refine Hb.drew ?_ | refine Hb.ext (by assumption) ?_ | exact Hb.setSameL (by first | omega | (simp only [size_alloc, size_setB, size_drew]; omega)) | exact Hb.setSame (by assumption) | refine Hb.set (by first | omega | (simp only [size_alloc, size_setB, size_drew]; omega)) ?_ ))), Hb.mk (Hb.h (by repeat (first | assumption | exact Hb.newY _ _ | refine Hb.alloc ?_ | refine Hb.drew ?_ | refine Hb.ext (by assumption) ?_ | exact Hb.setSameL (by first | omega | (simp only [size_alloc, size_setB, size_drew]; omega)) | exact Hb.setSame (by assumption) | refine Hb.set (by first | omega | (simp only [size_alloc, size_setB, size_drew]; omega)) ?_ ))), Hb.mk (Hb.h (by repeat (first | assumption | exact Hb.newY _ _ | refine Hb.alloc ?_ | refine Hb.drew ?_ | refine Hb.ext (by assumption) ?_ | exact Hb.setSameL (by first | omega | (simp only [size_alloc, size_setB, size_drew]; omega)) | exact Hb.setSame (by assumption) | refine Hb.set (by first | omega | (simp only [size_alloc, size_setB, size_drew]; omega)) ?_ ))), (by subst hK0e; exact ⟨hKCt4, Wd0, ⟨_, _, _, _, _, rfl⟩, Or.inr (Or.inl rfl), by rw [hoo]; rfl, Or.inr rfl, fun h => absurd rfl h, Or.inl rfl, by rw [hoo]; rfl, fun h => absurd rfl h, hcr.1, hcr.2⟩)⟩
            · have hb19p := hb19.h; try simp only [al_ete, al_dfn, Bool.not_eq_true', Bool.not_eq_false', al_ne, Bool.not_not, al_nn] at hb19p
              refine W_seq ?_
              refine W_region rfl ?_
              refine WO_p (PS_eql rfl rfl) ?_
              refine WO_p (PS_assign_bool rfl) ?_
              refine WO_nil ?_
              refine thn_normal ?_
              refine W_if rfl (fun hb21 => ?_) (fun hb21 => ?_)
              · have hb21p := hb21.h; try simp only [al_ete, al_dfn, Bool.not_eq_true', Bool.not_eq_false', al_ne, Bool.not_not, al_nn] at hb21p
                have hoo : o = 250 := by omega
                have hcr := callR (inn := 2) hM.ty hre (by omega)
                have hin : (6 : Int) ≤ f.sp ∧ f.sp - 6 + 1 ≤ 64 := by have h := hk; rw [show o = 250 from by omega] at h; exact h
                have hKD1 : FmTy (K0.sKind 4) := hK0.sKind (by decide)
                refine W_seq ?_
                refine W_region rfl ?_
                refine WO_p (PS_fieldAddr 0 Hvad.runUnderlying65 rfl Hvad.sizeOf5 rfl rfl) ?_
                refine WO_store1 Hvad.sizeOf5 rfl (v := .int _ _) rfl (Hb.h (by repeat (first | assumption | exact Hb.newY _ _ | refine Hb.alloc ?_ | refine Hb.drew ?_ | refine Hb.ext (by assumption) ?_ | exact Hb.setSameL (by first | omega | (simp only [size_alloc, size_setB, size_drew]; omega)) | exact Hb.setSame (by assumption) | refine Hb.set (by first | omega | (simp only [size_alloc, size_setB, size_drew]; omega)) ?_ ))) rfl (by have := (openFB hK0).bd; omega) rfl ?_
                rw [fs_kind]
                refine WO_nil ?_
                refine thn_normal ?_
                refine W_region rfl ?_
                refine WO_p (PS_fieldAddr 3 Hvad.runUnderlying65 rfl Hvad.sizeOf4 rfl rfl) ?_
                refine WO_store1 Hvad.sizeOf4 rfl (v := .bool _) rfl (Hb.h (by repeat (first | assumption | exact Hb.newY _ _ | refine Hb.alloc ?_ | refine Hb.drew ?_ | refine Hb.ext (by assumption) ?_ | exact Hb.setSameL (by first | omega | (simp only [size_alloc, size_setB, size_drew]; omega)) | exact Hb.setSame (by assumption) | refine Hb.set (by first | omega | (simp only [size_alloc, size_setB, size_drew]; omega)) ?_ ))) rfl (by have := (openFB hKD1).bd; omega) rfl ?_
                rw [fs_static]
                refine WO_nil ?_
                refine inBlk_normal ?_
                refine thn_normal ?_
                exact ⟨((K0.sKind 4).sStatic true), [0, 0, 0, 0], 2, ⟨rfl, rfl, rfl, rfl, rfl, rfl, trivial⟩, (by repeat (first | assumption | exact Ext.refl _ | refine Ext.alloc ?_ _ | refine Ext.drew ?_ | refine Ext.setB ?_ (by first | omega | (simp only [size_alloc, size_setB, size_drew]; omega)) _ | exact Ext.trans (by assumption) (by assumption) | refine Ext.trans ?_ (by assumption))), by first | omega | (simp only [size_setB]; omega), Hb.mk (Hb.h (by repeat (first | assumption | exact Hb.newY _ _ | refine Hb.alloc ?_ | refine Hb.drew ?_ | refine Hb.ext (by assumption) ?_ | exact Hb.setSameL (by first | omega | (simp only [size_alloc, size_setB, size_drew]; omega)) | exact Hb.setSame (by assumption) | refine Hb.set (by first | omega | (simp only [size_alloc, size_setB, size_drew]; omega)) ?_ ))), Hb.mk (Hb.h (by repeat (first | assumption | exact Hb.newY _ _ | refine Hb.alloc ?_ | refine Hb.drew ?_ | refine Hb.ext (by assumption) ?_ | exact Hb.setSameL (by first | omega | (simp only [size_alloc, size_setB, size_drew]; omega)) | exact Hb.setSame (by assumption) | refine Hb.set (by first | omega | (simp only [size_alloc, size_setB, size_drew]; omega)) ?_ ))), Hb.mk (Hb.h (by repeat (first | assumption | exact Hb.newY _ _ | refine Hb.alloc ?_ | refine Hb.drew ?_ | refine Hb.ext (by assumption) ?_ | exact Hb.setSameL (by first | omega | (simp only [size_alloc, size_setB, size_drew]; omega)) | exact Hb.setSame (by assumption) | refine Hb.set (by first | omega | (simp only [size_alloc, size_setB, size_drew]; omega)) ?_ ))), (by subst hK0e; exact ⟨(hK0.sKind (by decide)).sStatic, Wd0, ⟨_, _, _, _, _, rfl⟩, Or.inr (Or.inr (Or.inl rfl)), by rw [hoo]; rfl, Or.inl rfl, fun _ _ => ⟨rfl, rfl⟩, Or.inl rfl, by rw [hoo]; rfl, fun h => absurd rfl h, hcr.1, hcr.2⟩)⟩
              · have hb21p := hb21.h; try simp only [al_ete, al_dfn, Bool.not_eq_true', Bool.not_eq_false', al_ne, Bool.not_not, al_nn] at hb21p
                (exfalso; omega) --END
      · rintro ρ w28 ⟨K, val, inn, hFr28, hE28, hzv28, hb328, hb428, hb628, hK⟩
        refine W_env _ hFr28 ?_
        clear hone hks0 hKs0
        have hz28 := hE28.1
        have hKty := hK.ty
        have hKbd := (openFB hKty).bd
        have hwdv := hK.wd
        have hwdvl := hwdv.1
        have hinn := hK.i23
        have hsgb := sent_bd (W := m.argW f 0) hgast.1 (hwdA 0)
        obtain ⟨sg, hsge⟩ : ∃ sg, sentW f.gas (m.argW f 0) = sg := ⟨_, rfl⟩
        rw [hsge] at hsgb
        obtain ⟨kk, ks, ka, kb, kx, hKe⟩ := hK.shape
        have hKs := hKe
        have hKg : FmTy (K.sGas sg) := hKty.sGas (by omega)
        have hKgas : Ce (encF (K.sGas sg)).toArray (0 + 7) (.int .u64 sg) := (openFB hKg).gas
        have hKgb := (openFB hKg).bd
        refine W_seq ?_
        refine W_drawE [false, false, false, false, false, false, true, false, false, false] hmix (by kernel_rfl) rfl ?_
        refine WH_p (PS_move_ptr rfl) rfl ?_
        refine WH_p (PS_nilCheck rfl) rfl ?_
        refine WH_p (PS_fieldAddr 7 Hvad.runUnderlying65 rfl Hvad.sizeOf26 rfl rfl) rfl ?_
        refine WH_load (.int _ _) Hvad.isAgg26 rfl (Hb.h (by repeat (first | assumption | exact Hb.newY _ _ | refine Hb.alloc ?_ | refine Hb.drew ?_ | refine Hb.ext (by assumption) ?_ | exact Hb.setSameL (by first | omega | (simp only [size_alloc, size_setB, size_drew]; omega)) | exact Hb.setSame (by assumption) | refine Hb.set (by first | omega | (simp only [size_alloc, size_setB, size_drew]; omega)) ?_ ))) (Ce.h (by first | assumption | exact ⟨rfl⟩)) ?_
        refine WH_p (PS_move_ptr rfl) rfl ?_
        refine WH_p (PS_move_ptr rfl) rfl ?_
        refine WH_call Hvad.call160 (by rfl) (Ret.mono (arg_spec C c4 v1 B4 { m with ret := (none, 0, 0) } t f _ _ (MS.ext hM4 (by repeat (first | assumption | exact Ext.refl _ | refine Ext.alloc ?_ _ | refine Ext.drew ?_ | refine Ext.setB ?_ (by first | omega | (simp only [size_alloc, size_setB, size_drew]; omega)) _ | exact Ext.trans (by assumption) (by assumption) | refine Ext.trans ?_ (by assumption)))) hA4 (by omega)) ?_)
        rintro _ w160_21 ⟨hE160_21, rfl⟩
        refine ⟨fun _ => (by repeat (first | assumption | exact Ext.refl _ | refine Ext.alloc ?_ _ | refine Ext.drew ?_ | refine Ext.setB ?_ (by first | omega | (simp only [size_alloc, size_setB, size_drew]; omega)) _ | exact Ext.trans (by assumption) (by assumption) | refine Ext.trans ?_ (by assumption))), ?_⟩
        have hz160_21 := hE160_21.1
        try simp only [size_alloc, size_setB, size_drew] at hz160_21
        rw [hAW4]
        refine WH_call Hvad.call212 (by rfl) (Ret.mono (sentGas_spec _ _ _ hgast (hwdA _)) ?_)
        rintro _ w212_22 ⟨hE212_22, rfl⟩
        refine ⟨(fun h => by cases h), ?_⟩
        have hz212_22 := hE212_22.1
        try simp only [size_alloc, size_setB, size_drew] at hz212_22
        rw [hsge]
        refine WH_p (PS_fieldAddr 7 Hvad.runUnderlying65 rfl Hvad.sizeOf26 rfl rfl) rfl ?_
        refine WH_store1 Hvad.sizeOf26 rfl (v := .int _ _) rfl (Hb.h (by repeat (first | assumption | exact Hb.newY _ _ | refine Hb.alloc ?_ | refine Hb.drew ?_ | refine Hb.ext (by assumption) ?_ | exact Hb.setSameL (by first | omega | (simp only [size_alloc, size_setB, size_drew]; omega)) | exact Hb.setSame (by assumption) | refine Hb.set (by first | omega | (simp only [size_alloc, size_setB, size_drew]; omega)) ?_ ))) rfl (by omega) rfl (fun h => by cases h) ?_
        rw [fs_gas]
        refine WH_nil ?_
        refine thn_normal ?_
        refine W_seq ?_
        refine W_gen fun w29 hw29 => ?_
        have hE29 : Ext w4 w29 := by rw [hw29]; exact (by repeat (first | assumption | exact Ext.refl _ | refine Ext.alloc ?_ _ | refine Ext.drew ?_ | refine Ext.setB ?_ (by first | omega | (simp only [size_alloc, size_setB, size_drew]; omega)) _ | exact Ext.trans (by assumption) (by assumption) | refine Ext.trans ?_ (by assumption)))
        have hzv29 : w28.heap.size ≤ w29.heap.size := by rw [hw29]; first | omega | (simp only [size_setB]; omega)
        have hb329 : Hb w29 b3 (.cells (ic .u8 (addrW (m.argW f 1))) 25 (0, 0)) := by rw [hw29]; exact Hb.mk (Hb.h (by repeat (first | assumption | exact Hb.newY _ _ | refine Hb.alloc ?_ | refine Hb.drew ?_ | refine Hb.ext (by assumption) ?_ | exact Hb.setSameL (by first | omega | (simp only [size_alloc, size_setB, size_drew]; omega)) | exact Hb.setSame (by assumption) | refine Hb.set (by first | omega | (simp only [size_alloc, size_setB, size_drew]; omega)) ?_ )))
        have hb429 : Hb w29 b4 (.cells (encF (K.sGas sg)).toArray 65 (0, 0)) := by rw [hw29]; exact Hb.mk (Hb.h (by repeat (first | assumption | exact Hb.newY _ _ | refine Hb.alloc ?_ | refine Hb.drew ?_ | refine Hb.ext (by assumption) ?_ | exact Hb.setSameL (by first | omega | (simp only [size_alloc, size_setB, size_drew]; omega)) | exact Hb.setSame (by assumption) | refine Hb.set (by first | omega | (simp only [size_alloc, size_setB, size_drew]; omega)) ?_ )))
        have hb629 : Hb w29 b6 (.cells (ic .u64 val) 59 (0, 0)) := by rw [hw29]; exact Hb.mk (Hb.h (by repeat (first | assumption | exact Hb.newY _ _ | refine Hb.alloc ?_ | refine Hb.drew ?_ | refine Hb.ext (by assumption) ?_ | exact Hb.setSameL (by first | omega | (simp only [size_alloc, size_setB, size_drew]; omega)) | exact Hb.setSame (by assumption) | refine Hb.set (by first | omega | (simp only [size_alloc, size_setB, size_drew]; omega)) ?_ )))
        clear hw29
        have hz29 := hE29.1
        have hM29 := hM4.ext hE29
        have hblk29 := hM29.vs.blk
        obtain ⟨hM30, hS30⟩ := (hM29.ext (Ext.drew (Ext.refl _))).putF_gas (t := t) (f := f) hf (f.gas - sg) (by omega)
        refine W_drawE [false, false, false, false, false, false, false, false, false, false] hmix (by kernel_rfl) rfl ?_
        refine WH_p (PS_move_ptr rfl) rfl ?_
        refine WH_p (PS_nilCheck rfl) rfl ?_
        refine WH_p (PS_fieldAddr 7 Hvad.runUnderlying65 rfl Hvad.sizeOf26 rfl rfl) rfl ?_
        refine WH_load (.int _ _) Hvad.isAgg26 rfl (Hb.h (by repeat (first | assumption | exact Hb.newY _ _ | refine Hb.alloc ?_ | refine Hb.drew ?_ | refine Hb.ext (by assumption) ?_ | exact Hb.setSameL (by first | omega | (simp only [size_alloc, size_setB, size_drew]; omega)) | exact Hb.setSame (by assumption) | refine Hb.set (by first | omega | (simp only [size_alloc, size_setB, size_drew]; omega)) ?_ ))) (Ce.h (by first | assumption | exact ⟨rfl⟩)) ?_
        refine WH_p (PS_fieldAddr 7 Hvad.runUnderlying65 rfl Hvad.sizeOf26 rfl rfl) rfl ?_
        refine WH_load (.int _ _) Hvad.isAgg26 rfl (Hb.h (by repeat (first | assumption | exact Hb.newY _ _ | refine Hb.alloc ?_ | refine Hb.drew ?_ | refine Hb.ext (by assumption) ?_ | exact Hb.setSameL (by first | omega | (simp only [size_alloc, size_setB, size_drew]; omega)) | exact Hb.setSame (by assumption) | refine Hb.set (by first | omega | (simp only [size_alloc, size_setB, size_drew]; omega)) ?_ ))) (Ce.h (by first | assumption | exact ⟨rfl⟩)) ?_
        refine WH_p (PS_sub_u64n rfl rfl (by omega) (by omega)) rfl ?_
        refine WH_p (PS_nilCheck rfl) rfl ?_
        refine WH_p (PS_fieldAddr 7 Hvad.runUnderlying65 rfl Hvad.sizeOf26 rfl rfl) rfl ?_
        refine WH_store1 Hvad.sizeOf26 rfl (v := (.int _ _)) rfl (Hb.h (by repeat (first | assumption | exact Hb.newY _ _ | refine Hb.alloc ?_ | refine Hb.drew ?_ | refine Hb.ext (by assumption) ?_ | exact Hb.setSameL (by first | omega | (simp only [size_alloc, size_setB, size_drew]; omega)) | exact Hb.setSame (by assumption) | refine Hb.set (by first | omega | (simp only [size_alloc, size_setB, size_drew]; omega)) ?_ ))) rfl (by first | omega | assumption | rfl | decide | exact Nat.le_refl _ | (simp only [size_ic, Value.cells]; omega) | simp) rfl (fun h => by cases h) ?_
        refine WH_nil ?_
        refine thn_normal ?_
        refine W_seqJ (fun ρ w' => ∃ c5 st, Fr [(0, .pointer (some ⟨C, 0, none⟩)), (2, .pointer (some ⟨C, 1803 + t * 65, none⟩)), (3, .pointer (some ⟨b3, 0, none⟩)), (4, .pointer (some ⟨b4, 0, none⟩)), (5, .int .i64 inn), (6, .pointer (some ⟨b6, 0, none⟩))] ρ ∧ MS w' C c5 v1 B4 { m with ret := (none, 0, 0), frames := m.frames.set t { f with gas := f.gas - sg } } ∧ MStep w w' C B m B4 { m with ret := (none, 0, 0), frames := m.frames.set t { f with gas := f.gas - sg } } ∧ v6.heap.size ≤ w'.heap.size ∧ Hb w' b3 (.cells (ic .u8 (addrW (m.argW f 1))) 25 (0, 0)) ∧ Hb w' b4 (.cells (encF (K.sGas (sg + st))).toArray 65 (0, 0)) ∧ Hb w' b6 (.cells (ic .u64 val) 59 (0, 0)) ∧ (st = 0 ∨ (st = 2300 ∧ ¬ wv val = 0))) ?_ ?_
        · skip
          refine W_seq ?_
          refine W_gen fun w30 hw30 => ?_
          obtain ⟨c30, hM30'⟩ : ∃ c30, MS w30 C c30 v1 B4 { m with ret := (none, 0, 0), frames := m.frames.set t { f with gas := f.gas - sg } } := ⟨_, by rw [hw30]; exact hM30⟩
          have hS30' : MStep w w30 C B m B4 { m with ret := (none, 0, 0), frames := m.frames.set t { f with gas := f.gas - sg } } := by rw [hw30]; exact (hS4w.trans (MStep.ext hE29)).trans ((MStep.ext (Ext.drew (Ext.refl _))).trans hS30)
          have hb330 : Hb w30 b3 (.cells (ic .u8 (addrW (m.argW f 1))) 25 (0, 0)) := by rw [hw30]; exact Hb.mk (Hb.h (by repeat (first | assumption | exact Hb.newY _ _ | refine Hb.alloc ?_ | refine Hb.drew ?_ | refine Hb.ext (by assumption) ?_ | exact Hb.setSameL (by first | omega | (simp only [size_alloc, size_setB, size_drew]; omega)) | exact Hb.setSame (by assumption) | refine Hb.set (by first | omega | (simp only [size_alloc, size_setB, size_drew]; omega)) ?_ )))
          have hb430 : Hb w30 b4 (.cells (encF (K.sGas sg)).toArray 65 (0, 0)) := by rw [hw30]; exact Hb.mk (Hb.h (by repeat (first | assumption | exact Hb.newY _ _ | refine Hb.alloc ?_ | refine Hb.drew ?_ | refine Hb.ext (by assumption) ?_ | exact Hb.setSameL (by first | omega | (simp only [size_alloc, size_setB, size_drew]; omega)) | exact Hb.setSame (by assumption) | refine Hb.set (by first | omega | (simp only [size_alloc, size_setB, size_drew]; omega)) ?_ )))
          have hb630 : Hb w30 b6 (.cells (ic .u64 val) 59 (0, 0)) := by rw [hw30]; exact Hb.mk (Hb.h (by repeat (first | assumption | exact Hb.newY _ _ | refine Hb.alloc ?_ | refine Hb.drew ?_ | refine Hb.ext (by assumption) ?_ | exact Hb.setSameL (by first | omega | (simp only [size_alloc, size_setB, size_drew]; omega)) | exact Hb.setSame (by assumption) | refine Hb.set (by first | omega | (simp only [size_alloc, size_setB, size_drew]; omega)) ?_ )))
          have hzv30 : w29.heap.size ≤ w30.heap.size := by rw [hw30]; first | omega | (simp only [size_setB, size_drew]; omega)
          have hlb430 := hb430.lt
          clear hw30 hM30 hS30
          have hz30 := hS30'.keep.sz
          have hblk30 := hM30'.vs.blk
          refine W_region rfl ?_
          refine WO_loadA _ Hvad.isAgg59 Hvad.sizeOf59 rfl (Hb.h (by repeat (first | assumption | exact Hb.newY _ _ | refine Hb.alloc ?_ | refine Hb.drew ?_ | refine Hb.ext (by assumption) ?_ | exact Hb.setSameL (by first | omega | (simp only [size_alloc, size_setB, size_drew]; omega)) | exact Hb.setSame (by assumption) | refine Hb.set (by first | omega | (simp only [size_alloc, size_setB, size_drew]; omega)) ?_ ))) (by first | omega | assumption | rfl | decide | exact Nat.le_refl _ | (simp only [size_ic, Value.cells]; omega) | simp) (Xt.h (by first | assumption | exact Xt.whole rfl rfl | exact Xt.whole rfl (by simp only [size_ic, Value.cells]; omega) | exact ⟨rfl⟩)) ?_
          refine WO_call Hvad.call131 (by rfl) (Ret.mono (isz_spec _ _ hwdv) ?_)
          rintro _ w131_23 ⟨rfl, hE131_23⟩
          have hz131_23 := hE131_23.1
          try simp only [size_alloc, size_setB, size_drew] at hz131_23
          refine WO_p (PS_not rfl) ?_
          refine WO_nil ?_
          refine thn_normal ?_
          refine W_if rfl (fun hb27 => ?_) (fun hb27 => ?_)
          · have hb27p := hb27.h; try simp only [al_ete, al_dfn, Bool.not_eq_true', Bool.not_eq_false', al_ne, Bool.not_not, al_nn] at hb27p
            have hvnz : ¬ wv val = 0 := by simpa using hb27p
            refine W_region rfl ?_
            refine WO_p (PS_fieldAddr 7 Hvad.runUnderlying65 rfl Hvad.sizeOf26 rfl rfl) ?_
            refine WO_load (.int _ _) Hvad.isAgg26 rfl (Hb.h (by repeat (first | assumption | exact Hb.newY _ _ | refine Hb.alloc ?_ | refine Hb.drew ?_ | refine Hb.ext (by assumption) ?_ | exact Hb.setSameL (by first | omega | (simp only [size_alloc, size_setB, size_drew]; omega)) | exact Hb.setSame (by assumption) | refine Hb.set (by first | omega | (simp only [size_alloc, size_setB, size_drew]; omega)) ?_ ))) (Ce.h (by first | assumption | exact ⟨rfl⟩)) ?_
            refine WO_p (PS_add_u64n rfl rfl (by omega) (by omega)) ?_
            refine WO_p (PS_fieldAddr 7 Hvad.runUnderlying65 rfl Hvad.sizeOf26 rfl rfl) ?_
            refine WO_store1 Hvad.sizeOf26 rfl (v := .int _ _) rfl (Hb.h (by repeat (first | assumption | exact Hb.newY _ _ | refine Hb.alloc ?_ | refine Hb.drew ?_ | refine Hb.ext (by assumption) ?_ | exact Hb.setSameL (by first | omega | (simp only [size_alloc, size_setB, size_drew]; omega)) | exact Hb.setSame (by assumption) | refine Hb.set (by first | omega | (simp only [size_alloc, size_setB, size_drew]; omega)) ?_ ))) rfl (by omega) rfl ?_
            rw [fs_gas]
            refine WO_nil ?_
            refine thn_normal ?_
            exact ⟨_, 2300, ⟨rfl, rfl, rfl, rfl, rfl, rfl, trivial⟩, MS.locT (MS.ext hM30' (by repeat (first | assumption | exact Ext.refl _ | refine Ext.alloc ?_ _ | refine Ext.drew ?_ | refine Ext.setB ?_ (by first | omega | (simp only [size_alloc, size_setB, size_drew]; omega)) _ | exact Ext.trans (by assumption) (by assumption) | refine Ext.trans ?_ (by assumption)))) (b := b4) (x := (encF (K.sGas sg)).toArray) (T := 65) (fz := (0, 0)) (Hb.mk (Hb.h (by repeat (first | assumption | exact Hb.newY _ _ | refine Hb.alloc ?_ | refine Hb.drew ?_ | refine Hb.ext (by assumption) ?_ | exact Hb.setSameL (by first | omega | (simp only [size_alloc, size_setB, size_drew]; omega)) | exact Hb.setSame (by assumption) | refine Hb.set (by first | omega | (simp only [size_alloc, size_setB, size_drew]; omega)) ?_ )))) (by decide), MStep.loc (hS30'.trans (MStep.ext (by repeat (first | assumption | exact Ext.refl _ | refine Ext.alloc ?_ _ | refine Ext.drew ?_ | refine Ext.setB ?_ (by first | omega | (simp only [size_alloc, size_setB, size_drew]; omega)) _ | exact Ext.trans (by assumption) (by assumption) | refine Ext.trans ?_ (by assumption))))) (by omega) _, by first | omega | (simp only [size_setB]; omega), Hb.mk (Hb.h (by repeat (first | assumption | exact Hb.newY _ _ | refine Hb.alloc ?_ | refine Hb.drew ?_ | refine Hb.ext (by assumption) ?_ | exact Hb.setSameL (by first | omega | (simp only [size_alloc, size_setB, size_drew]; omega)) | exact Hb.setSame (by assumption) | refine Hb.set (by first | omega | (simp only [size_alloc, size_setB, size_drew]; omega)) ?_ ))), Hb.mk (Hb.h (by repeat (first | assumption | exact Hb.newY _ _ | refine Hb.alloc ?_ | refine Hb.drew ?_ | refine Hb.ext (by assumption) ?_ | exact Hb.setSameL (by first | omega | (simp only [size_alloc, size_setB, size_drew]; omega)) | exact Hb.setSame (by assumption) | refine Hb.set (by first | omega | (simp only [size_alloc, size_setB, size_drew]; omega)) ?_ ))), Hb.mk (Hb.h (by repeat (first | assumption | exact Hb.newY _ _ | refine Hb.alloc ?_ | refine Hb.drew ?_ | refine Hb.ext (by assumption) ?_ | exact Hb.setSameL (by first | omega | (simp only [size_alloc, size_setB, size_drew]; omega)) | exact Hb.setSame (by assumption) | refine Hb.set (by first | omega | (simp only [size_alloc, size_setB, size_drew]; omega)) ?_ ))), Or.inr ⟨rfl, hvnz⟩⟩
          · have hb27p := hb27.h; try simp only [al_ete, al_dfn, Bool.not_eq_true', Bool.not_eq_false', al_ne, Bool.not_not, al_nn] at hb27p
            refine W_skip ?_
            refine thn_normal ?_
            exact ⟨_, 0, ⟨rfl, rfl, rfl, rfl, rfl, rfl, trivial⟩, MS.ext hM30' (by repeat (first | assumption | exact Ext.refl _ | refine Ext.alloc ?_ _ | refine Ext.drew ?_ | refine Ext.setB ?_ (by first | omega | (simp only [size_alloc, size_setB, size_drew]; omega)) _ | exact Ext.trans (by assumption) (by assumption) | refine Ext.trans ?_ (by assumption))), hS30'.trans (MStep.ext (by repeat (first | assumption | exact Ext.refl _ | refine Ext.alloc ?_ _ | refine Ext.drew ?_ | refine Ext.setB ?_ (by first | omega | (simp only [size_alloc, size_setB, size_drew]; omega)) _ | exact Ext.trans (by assumption) (by assumption) | refine Ext.trans ?_ (by assumption)))), by omega, Hb.mk (Hb.h (by repeat (first | assumption | exact Hb.newY _ _ | refine Hb.alloc ?_ | refine Hb.drew ?_ | refine Hb.ext (by assumption) ?_ | exact Hb.setSameL (by first | omega | (simp only [size_alloc, size_setB, size_drew]; omega)) | exact Hb.setSame (by assumption) | refine Hb.set (by first | omega | (simp only [size_alloc, size_setB, size_drew]; omega)) ?_ ))), by rw [Int.add_zero]; exact Hb.mk (Hb.h (by repeat (first | assumption | exact Hb.newY _ _ | refine Hb.alloc ?_ | refine Hb.drew ?_ | refine Hb.ext (by assumption) ?_ | exact Hb.setSameL (by first | omega | (simp only [size_alloc, size_setB, size_drew]; omega)) | exact Hb.setSame (by assumption) | refine Hb.set (by first | omega | (simp only [size_alloc, size_setB, size_drew]; omega)) ?_ ))), Hb.mk (Hb.h (by repeat (first | assumption | exact Hb.newY _ _ | refine Hb.alloc ?_ | refine Hb.drew ?_ | refine Hb.ext (by assumption) ?_ | exact Hb.setSameL (by first | omega | (simp only [size_alloc, size_setB, size_drew]; omega)) | exact Hb.setSame (by assumption) | refine Hb.set (by first | omega | (simp only [size_alloc, size_setB, size_drew]; omega)) ?_ ))), Or.inl rfl⟩
        · rintro ρ w5 ⟨c5, st, hFr5, hM5, hS5w, hzv5, hb35, hb45, hb65, hst⟩
          refine W_env _ hFr5 ?_
          have hz5 := hS5w.keep.sz
          have hblk5 := hM5.vs.blk
          have hl45 := hb45.lt
          have hl35 := hb35.lt
          have hcs5 := hM5.sz
          have hc_s5 := hM5.rep.s
          have hc_top5 : Ce c5 2258 (.int .i8 (t : Int)) := by have := hM5.rep.top; rw [show ({ m with ret := (none, 0, 0), frames := m.frames.set t { f with gas := f.gas - sg } } : Mc).top = (t : Int) from hI.top] at this; exact this
          have hf5 : ({ m with ret := (none, 0, 0), frames := m.frames.set t { f with gas := f.gas - sg } } : Mc).frames[t]? = some { f with gas := f.gas - sg } := by show (m.frames.set t _)[t]? = _; rw [List.getElem?_set_self (lt_of_getElem? hf)]
          obtain ⟨_, hfty5, hF5⟩ := hM5.openF hf5
          have hf_gas5 : Ce c5 (1803 + t * 65 + 7) (.int .u64 (f.gas - sg)) := hF5.gas
          have hf_self5 : Xt c5 (1803 + t * 65 + 9) (1803 + t * 65 + 9 + 20) (ic .u8 f.self) := hF5.self
          have hA5 : FrA { m with ret := (none, 0, 0), frames := m.frames.set t { f with gas := f.gas - sg } } t { f with gas := f.gas - sg } := ⟨hA.t6, hf5, hA.sb, hA.sp⟩
          have hAW5 : ∀ i, ({ m with ret := (none, 0, 0), frames := m.frames.set t { f with gas := f.gas - sg } } : Mc).argW { f with gas := f.gas - sg } i = m.argW f i := fun i => argW_same rfl rfl rfl i
          have hstv : 0 ≤ st ∧ st ≤ 2300 := by omega
          have hstx : st = 0 ∨ (st = 2300 ∧ accW v (addrW (m.argW f 1)) + 9000 ≤ xd) := by
            rcases hst with h | ⟨h, hv⟩
            · exact Or.inl h
            · exact Or.inr ⟨h, hdr.val (hK.vv hv).2 (hK.vv hv).1⟩
          have hc1 : 25 * (dj : Int) ≤ c' - st ∧ 2600 * (da : Int) ≤ c' - st ∧ st + 100 ≤ c' ∧ 25 * ((dj : Int) + 2) ≤ c' - st := by omega
          have hKg5 : FmTy (K.sGas (sg + st)) := hKty.sGas (by omega)
          have hKgas5 : Ce (encF (K.sGas (sg + st))).toArray (0 + 7) (.int .u64 (sg + st)) := (openFB hKg5).gas
          have hKgb5 := (openFB hKg5).bd
          have htake := hK.tk
          have hk1 := hk
          rw [htake] at hk1
          have hgv1 : (infoW o).2.1 = 1 := by rcases ho with h | h | h | h <;> (rw [h]; rfl)
          rw [hgv1] at hk1
          have hbw5 := bal_wd hM5.vs.ty f.self
          have hbwl5 := hbw5.1
          have hT5 : MemT { m with ret := (none, 0, 0), frames := m.frames.set t { f with gas := f.gas - sg } } t lo n := ⟨hT.1, hT.2, hT.3, hT.4, hT.5, hT.6⟩
          refine W_seq ?_
          refine W_seq ?_
          refine W_drawE [false, false, false, false, false, false, false, false, false, false, false, false, false, false, true, false, false, false] hmix (by kernel_rfl) rfl ?_
          refine WH_p (PS_move_ptr rfl) rfl ?_
          refine WH_p (PS_nilCheck rfl) rfl ?_
          refine WH_p (PS_fieldAddr 2258 Hvad.runUnderlying69 rfl Hvad.sizeOf67 rfl rfl) rfl ?_
          refine WH_load (.int _ _) Hvad.isAgg67 rfl (Hb.h (by repeat (first | assumption | exact Hb.newY _ _ | refine Hb.alloc ?_ | refine Hb.drew ?_ | refine Hb.ext (by assumption) ?_ | exact Hb.setSameL (by first | omega | (simp only [size_alloc, size_setB, size_drew]; omega)) | exact Hb.setSame (by assumption) | refine Hb.set (by first | omega | (simp only [size_alloc, size_setB, size_drew]; omega)) ?_ ))) (Ce.h (by first | assumption | exact ⟨rfl⟩)) ?_
          refine WH_p (PS_geq rfl rfl) rfl ?_
          refine WH_p (PS_move_bool rfl) rfl ?_
          refine WH_if (t := 112) rfl (fun hb29 => ?_) (fun hb29 => ?_)
          · have hb29p := hb29.h; try simp only [al_ete, al_dfn, Bool.not_eq_true', Bool.not_eq_false', al_ne, Bool.not_not, al_nn] at hb29p
            refine WH_guardF rfl rfl hb29.h ?_
            refine WH_guardF rfl rfl hb29.h ?_
            refine WH_guardF rfl rfl hb29.h ?_
            refine WH_guardF rfl rfl hb29.h ?_
            refine WH_guardF rfl rfl hb29.h ?_
            refine WH_guardF rfl rfl hb29.h ?_
            refine WH_guardF rfl rfl hb29.h ?_
            refine WH_guardF rfl rfl hb29.h ?_
            refine WH_guardF rfl rfl hb29.h ?_
            refine WH_guardF rfl rfl hb29.h ?_
            refine WH_guardF rfl rfl hb29.h ?_
            refine WH_p (PS_pickT rfl hb29.h rfl) rfl ?_
            refine WH_nil ?_
            refine thn_normal ?_
            refine W_condT rfl rfl ?_
            refine W_seq ?_
            refine W_gen fun w33 hw33 => ?_
            have hE33 : Ext w5 w33 := by rw [hw33]; exact (by repeat (first | assumption | exact Ext.refl _ | refine Ext.alloc ?_ _ | refine Ext.drew ?_ | refine Ext.setB ?_ (by first | omega | (simp only [size_alloc, size_setB, size_drew]; omega)) _ | exact Ext.trans (by assumption) (by assumption) | refine Ext.trans ?_ (by assumption)))
            clear hw33
            have hz33 := hE33.1
            have hM33 := hM5.ext hE33
            have hblk33 := hM33.vs.blk
            obtain ⟨hM34, hS34⟩ := (hM33.ext (Ext.drew (Ext.refl _))).putF_gas (t := t) (f := { f with gas := f.gas - sg }) hf5 (f.gas - sg + (sg + st)) (by omega)
            replace hM34 := hM34.castY (m' := { m with ret := (none, 0, 0), frames := m.frames.set t { f with gas := f.gas - sg + (sg + st) } }) (by simp [List.set_set])
            replace hS34 := hS34.castY (m'' := { m with ret := (none, 0, 0), frames := m.frames.set t { f with gas := f.gas - sg + (sg + st) } }) (by simp [List.set_set])
            have hb434 : Hb w33 b4 (.cells (encF (K.sGas (sg + st))).toArray 65 (0, 0)) := Hb.ext hE33 hb45
            have hA34 : FrA { m with ret := (none, 0, 0), frames := m.frames.set t { f with gas := f.gas - sg + (sg + st) } } t { f with gas := f.gas - sg + (sg + st) } := ⟨hA.t6, by show (m.frames.set t _)[t]? = _; rw [List.getElem?_set_self (lt_of_getElem? hf)], hA.sb, hA.sp⟩
            refine W_drawE [false, false, false, false, false, false, false, false, false, false] hmix (by kernel_rfl) rfl ?_
            refine WH_p (PS_move_ptr rfl) rfl ?_
            refine WH_p (PS_nilCheck rfl) rfl ?_
            refine WH_p (PS_fieldAddr 7 Hvad.runUnderlying65 rfl Hvad.sizeOf26 rfl rfl) rfl ?_
            refine WH_load (.int _ _) Hvad.isAgg26 rfl (Hb.h (by repeat (first | assumption | exact Hb.newY _ _ | refine Hb.alloc ?_ | refine Hb.drew ?_ | refine Hb.ext (by assumption) ?_ | exact Hb.setSameL (by first | omega | (simp only [size_alloc, size_setB, size_drew]; omega)) | exact Hb.setSame (by assumption) | refine Hb.set (by first | omega | (simp only [size_alloc, size_setB, size_drew]; omega)) ?_ ))) (Ce.h (by first | assumption | exact ⟨rfl⟩)) ?_
            refine WH_p (PS_fieldAddr 7 Hvad.runUnderlying65 rfl Hvad.sizeOf26 rfl rfl) rfl ?_
            refine WH_load (.int _ _) Hvad.isAgg26 rfl (Hb.h (by repeat (first | assumption | exact Hb.newY _ _ | refine Hb.alloc ?_ | refine Hb.drew ?_ | refine Hb.ext (by assumption) ?_ | exact Hb.setSameL (by first | omega | (simp only [size_alloc, size_setB, size_drew]; omega)) | exact Hb.setSame (by assumption) | refine Hb.set (by first | omega | (simp only [size_alloc, size_setB, size_drew]; omega)) ?_ ))) (Ce.h (by first | assumption | exact ⟨rfl⟩)) ?_
            refine WH_p (PS_add_u64n rfl rfl (by omega) (by omega)) rfl ?_
            refine WH_p (PS_nilCheck rfl) rfl ?_
            refine WH_p (PS_fieldAddr 7 Hvad.runUnderlying65 rfl Hvad.sizeOf26 rfl rfl) rfl ?_
            refine WH_store1 Hvad.sizeOf26 rfl (v := (.int _ _)) rfl (Hb.h (by repeat (first | assumption | exact Hb.newY _ _ | refine Hb.alloc ?_ | refine Hb.drew ?_ | refine Hb.ext (by assumption) ?_ | exact Hb.setSameL (by first | omega | (simp only [size_alloc, size_setB, size_drew]; omega)) | exact Hb.setSame (by assumption) | refine Hb.set (by first | omega | (simp only [size_alloc, size_setB, size_drew]; omega)) ?_ ))) rfl (by first | omega | assumption | rfl | decide | exact Nat.le_refl _ | (simp only [size_ic, Value.cells]; omega) | simp) rfl (fun h => by cases h) ?_
            refine WH_nil ?_
            refine thn_normal ?_
            refine W_seq ?_
            refine W_region rfl ?_
            refine WO_p (PS_move_ptr rfl) ?_
            refine WO_p (PS_move_ptr rfl) ?_
            refine WO_p (PS_move_int rfl) ?_
            refine WO_p (PS_add_i64n rfl rfl (by omega) (by omega)) ?_
            refine WO_p (PS_conv_u16n Hvad.runUnderlying3 Hvad.runUnderlying61 rfl (by omega) (by omega)) ?_
            refine WO_p (PS_buildI (k := .u64) (zs := [0, 0, 0, 0]) (ps := []) (L := [0, 0, 0, 0]) Hvad.zeroValue59 Hvad.runUnderlying59 Hvad.sizeOf26 rfl rfl rfl rfl) ?_
            refine WO_call Hvad.call155 (by rfl) (Ret.mono (settle_spec C _ v1 B4 { m with ret := (none, 0, 0), frames := m.frames.set t { f with gas := f.gas - sg + (sg + st) } } t { f with gas := f.gas - sg + (sg + st) } _ _ _ _ _ (MS.ext hM34 (by repeat (first | assumption | exact Ext.refl _ | refine Ext.alloc ?_ _ | refine Ext.drew ?_ | refine Ext.setB ?_ (by first | omega | (simp only [size_alloc, size_setB, size_drew]; omega)) _ | exact Ext.trans (by assumption) (by assumption) | refine Ext.trans ?_ (by assumption)))) hA34 (by show 0 ≤ _ ∧ _ ≤ f.sp; omega) (by intro _; show f.sp - _ < 64; omega) Wd0 (by show (0:Int) ≤ 1 ∧ f.pc + 1 ≤ 65535; omega)) ?_)
            rintro _ wS hRS
            refine WO_nil ?_
            refine thn_normal ?_
            refine W_ret ?_
            refine thn_ret ?_
            first | refine bodyQ_ret0 Hvad.results111 ?_ | refine bodyQ_end0 Hvad.results111 ?_
            exact ⟨v1, _, MRet.trans hS5w (MRet.trans (MStep.ext hE33) (MRet.trans (MStep.ext (Ext.drew (Ext.refl _))) (MRet.trans hS34 hRS))), call_stay hI hf hadv1 hda1 hstv.1 (by omega) hc1.1 hc1.2.1 (by omega) (by rw [show f.gas - sg + (sg + st) = f.gas + st by omega]) (by omega) (by omega) (by omega)⟩
          · have hb29p := hb29.h; try simp only [al_ete, al_dfn, Bool.not_eq_true', Bool.not_eq_false', al_ne, Bool.not_not, al_nn] at hb29p
            refine WH_guardT rfl rfl hb29.h ?_
            refine WH_p (PS_move_ptr rfl) rfl ?_
            refine WH_guardT rfl rfl hb29.h ?_
            refine WH_p (PS_nilCheck rfl) rfl ?_
            refine WH_guardT rfl rfl hb29.h ?_
            refine WH_p (PS_fieldAddr 0 Hvad.runUnderlying69 rfl Hvad.sizeOf53 rfl rfl) rfl ?_
            refine WH_guardT rfl rfl hb29.h ?_
            refine WH_load (.pointer _) Hvad.isAgg53 rfl (Hb.h (by repeat (first | assumption | exact Hb.newY _ _ | refine Hb.alloc ?_ | refine Hb.drew ?_ | refine Hb.ext (by assumption) ?_ | exact Hb.setSameL (by first | omega | (simp only [size_alloc, size_setB, size_drew]; omega)) | exact Hb.setSame (by assumption) | refine Hb.set (by first | omega | (simp only [size_alloc, size_setB, size_drew]; omega)) ?_ ))) (Ce.h (by first | assumption | exact ⟨rfl⟩)) ?_
            refine WH_guardT rfl rfl hb29.h ?_
            refine WH_p (PS_move_ptr rfl) rfl ?_
            refine WH_guardT rfl rfl hb29.h ?_
            refine WH_p (PS_nilCheck rfl) rfl ?_
            refine WH_guardT rfl rfl hb29.h ?_
            refine WH_p (PS_fieldAddr 9 Hvad.runUnderlying65 rfl Hvad.sizeOf25 rfl rfl) rfl ?_
            refine WH_guardT rfl rfl hb29.h ?_
            refine WH_loadA _ Hvad.isAgg25 Hvad.sizeOf25 rfl (Hb.h (by repeat (first | assumption | exact Hb.newY _ _ | refine Hb.alloc ?_ | refine Hb.drew ?_ | refine Hb.ext (by assumption) ?_ | exact Hb.setSameL (by first | omega | (simp only [size_alloc, size_setB, size_drew]; omega)) | exact Hb.setSame (by assumption) | refine Hb.set (by first | omega | (simp only [size_alloc, size_setB, size_drew]; omega)) ?_ ))) (by first | omega | assumption | rfl | decide | exact Nat.le_refl _ | (simp only [size_ic, Value.cells]; omega) | simp) (Xt.h (by first | assumption | exact Xt.whole rfl rfl | exact Xt.whole rfl (by simp only [size_ic, Value.cells]; omega) | exact ⟨rfl⟩)) ?_
            refine WH_guardT rfl rfl hb29.h ?_
            refine WH_call Hvad.call36 (by rfl) (Ret.mono (balance_spec C c5 v1 B4 (bb m) _ _ (VS.ext hM5.vs (by repeat (first | assumption | exact Ext.refl _ | refine Ext.alloc ?_ _ | refine Ext.drew ?_ | refine Ext.setB ?_ (by first | omega | (simp only [size_alloc, size_setB, size_drew]; omega)) _ | exact Ext.trans (by assumption) (by assumption) | refine Ext.trans ?_ (by assumption)))) hself) ?_)
            rintro _ w36_30 ⟨rfl, hE36_30⟩
            refine ⟨fun _ => (by repeat (first | assumption | exact Ext.refl _ | refine Ext.alloc ?_ _ | refine Ext.drew ?_ | refine Ext.setB ?_ (by first | omega | (simp only [size_alloc, size_setB, size_drew]; omega)) _ | exact Ext.trans (by assumption) (by assumption) | refine Ext.trans ?_ (by assumption))), ?_⟩
            have hz36_30 := hE36_30.1
            try simp only [size_alloc, size_setB, size_drew] at hz36_30
            refine WH_guardT rfl rfl hb29.h ?_
            refine WH_loadA _ Hvad.isAgg59 Hvad.sizeOf59 rfl (Hb.h (by repeat (first | assumption | exact Hb.newY _ _ | refine Hb.alloc ?_ | refine Hb.drew ?_ | refine Hb.ext (by assumption) ?_ | exact Hb.setSameL (by first | omega | (simp only [size_alloc, size_setB, size_drew]; omega)) | exact Hb.setSame (by assumption) | refine Hb.set (by first | omega | (simp only [size_alloc, size_setB, size_drew]; omega)) ?_ ))) (by first | omega | assumption | rfl | decide | exact Nat.le_refl _ | (simp only [size_ic, Value.cells]; omega) | simp) (Xt.h (by first | assumption | exact Xt.whole rfl rfl | exact Xt.whole rfl (by simp only [size_ic, Value.cells]; omega) | exact ⟨rfl⟩)) ?_
            refine WH_guardT rfl rfl hb29.h ?_
            refine WH_call Hvad.call66 (by rfl) (Ret.mono (lt_spec _ _ _ hbw5 hwdv) ?_)
            rintro _ w66_31 ⟨rfl, hE66_31⟩
            refine ⟨(fun h => by cases h), ?_⟩
            have hz66_31 := hE66_31.1
            try simp only [size_alloc, size_setB, size_drew] at hz66_31
            refine WH_p (PS_pickF rfl hb29.h rfl) rfl ?_
            refine WH_nil ?_
            refine thn_normal ?_
            refine W_if rfl (fun hb33 => ?_) (fun hb33 => ?_)
            · have hb33p := hb33.h; try simp only [al_ete, al_dfn, Bool.not_eq_true', Bool.not_eq_false', al_ne, Bool.not_not, al_nn] at hb33p
              refine W_seq ?_
              refine W_gen fun w33 hw33 => ?_
              have hE33 : Ext w5 w33 := by rw [hw33]; exact (by repeat (first | assumption | exact Ext.refl _ | refine Ext.alloc ?_ _ | refine Ext.drew ?_ | refine Ext.setB ?_ (by first | omega | (simp only [size_alloc, size_setB, size_drew]; omega)) _ | exact Ext.trans (by assumption) (by assumption) | refine Ext.trans ?_ (by assumption)))
              clear hw33
              have hz33 := hE33.1
              have hM33 := hM5.ext hE33
              have hblk33 := hM33.vs.blk
              obtain ⟨hM34, hS34⟩ := (hM33.ext (Ext.drew (Ext.refl _))).putF_gas (t := t) (f := { f with gas := f.gas - sg }) hf5 (f.gas - sg + (sg + st)) (by omega)
              replace hM34 := hM34.castY (m' := { m with ret := (none, 0, 0), frames := m.frames.set t { f with gas := f.gas - sg + (sg + st) } }) (by simp [List.set_set])
              replace hS34 := hS34.castY (m'' := { m with ret := (none, 0, 0), frames := m.frames.set t { f with gas := f.gas - sg + (sg + st) } }) (by simp [List.set_set])
              have hb434 : Hb w33 b4 (.cells (encF (K.sGas (sg + st))).toArray 65 (0, 0)) := Hb.ext hE33 hb45
              have hA34 : FrA { m with ret := (none, 0, 0), frames := m.frames.set t { f with gas := f.gas - sg + (sg + st) } } t { f with gas := f.gas - sg + (sg + st) } := ⟨hA.t6, by show (m.frames.set t _)[t]? = _; rw [List.getElem?_set_self (lt_of_getElem? hf)], hA.sb, hA.sp⟩
              refine W_drawE [false, false, false, false, false, false, false, false, false, false] hmix (by kernel_rfl) rfl ?_
              refine WH_p (PS_move_ptr rfl) rfl ?_
              refine WH_p (PS_nilCheck rfl) rfl ?_
              refine WH_p (PS_fieldAddr 7 Hvad.runUnderlying65 rfl Hvad.sizeOf26 rfl rfl) rfl ?_
              refine WH_load (.int _ _) Hvad.isAgg26 rfl (Hb.h (by repeat (first | assumption | exact Hb.newY _ _ | refine Hb.alloc ?_ | refine Hb.drew ?_ | refine Hb.ext (by assumption) ?_ | exact Hb.setSameL (by first | omega | (simp only [size_alloc, size_setB, size_drew]; omega)) | exact Hb.setSame (by assumption) | refine Hb.set (by first | omega | (simp only [size_alloc, size_setB, size_drew]; omega)) ?_ ))) (Ce.h (by first | assumption | exact ⟨rfl⟩)) ?_
              refine WH_p (PS_fieldAddr 7 Hvad.runUnderlying65 rfl Hvad.sizeOf26 rfl rfl) rfl ?_
              refine WH_load (.int _ _) Hvad.isAgg26 rfl (Hb.h (by repeat (first | assumption | exact Hb.newY _ _ | refine Hb.alloc ?_ | refine Hb.drew ?_ | refine Hb.ext (by assumption) ?_ | exact Hb.setSameL (by first | omega | (simp only [size_alloc, size_setB, size_drew]; omega)) | exact Hb.setSame (by assumption) | refine Hb.set (by first | omega | (simp only [size_alloc, size_setB, size_drew]; omega)) ?_ ))) (Ce.h (by first | assumption | exact ⟨rfl⟩)) ?_
              refine WH_p (PS_add_u64n rfl rfl (by omega) (by omega)) rfl ?_
              refine WH_p (PS_nilCheck rfl) rfl ?_
              refine WH_p (PS_fieldAddr 7 Hvad.runUnderlying65 rfl Hvad.sizeOf26 rfl rfl) rfl ?_
              refine WH_store1 Hvad.sizeOf26 rfl (v := (.int _ _)) rfl (Hb.h (by repeat (first | assumption | exact Hb.newY _ _ | refine Hb.alloc ?_ | refine Hb.drew ?_ | refine Hb.ext (by assumption) ?_ | exact Hb.setSameL (by first | omega | (simp only [size_alloc, size_setB, size_drew]; omega)) | exact Hb.setSame (by assumption) | refine Hb.set (by first | omega | (simp only [size_alloc, size_setB, size_drew]; omega)) ?_ ))) rfl (by first | omega | assumption | rfl | decide | exact Nat.le_refl _ | (simp only [size_ic, Value.cells]; omega) | simp) rfl (fun h => by cases h) ?_
              refine WH_nil ?_
              refine thn_normal ?_
              refine W_seq ?_
              refine W_region rfl ?_
              refine WO_p (PS_move_ptr rfl) ?_
              refine WO_p (PS_move_ptr rfl) ?_
              refine WO_p (PS_move_int rfl) ?_
              refine WO_p (PS_add_i64n rfl rfl (by omega) (by omega)) ?_
              refine WO_p (PS_conv_u16n Hvad.runUnderlying3 Hvad.runUnderlying61 rfl (by omega) (by omega)) ?_
              refine WO_p (PS_buildI (k := .u64) (zs := [0, 0, 0, 0]) (ps := []) (L := [0, 0, 0, 0]) Hvad.zeroValue59 Hvad.runUnderlying59 Hvad.sizeOf26 rfl rfl rfl rfl) ?_
              refine WO_call Hvad.call155 (by rfl) (Ret.mono (settle_spec C _ v1 B4 { m with ret := (none, 0, 0), frames := m.frames.set t { f with gas := f.gas - sg + (sg + st) } } t { f with gas := f.gas - sg + (sg + st) } _ _ _ _ _ (MS.ext hM34 (by repeat (first | assumption | exact Ext.refl _ | refine Ext.alloc ?_ _ | refine Ext.drew ?_ | refine Ext.setB ?_ (by first | omega | (simp only [size_alloc, size_setB, size_drew]; omega)) _ | exact Ext.trans (by assumption) (by assumption) | refine Ext.trans ?_ (by assumption)))) hA34 (by show 0 ≤ _ ∧ _ ≤ f.sp; omega) (by intro _; show f.sp - _ < 64; omega) Wd0 (by show (0:Int) ≤ 1 ∧ f.pc + 1 ≤ 65535; omega)) ?_)
              rintro _ wS hRS
              refine WO_nil ?_
              refine thn_normal ?_
              refine W_ret ?_
              refine thn_ret ?_
              first | refine bodyQ_ret0 Hvad.results111 ?_ | refine bodyQ_end0 Hvad.results111 ?_
              exact ⟨v1, _, MRet.trans hS5w (MRet.trans (MStep.ext hE33) (MRet.trans (MStep.ext (Ext.drew (Ext.refl _))) (MRet.trans hS34 hRS))), call_stay hI hf hadv1 hda1 hstv.1 (by omega) hc1.1 hc1.2.1 (by omega) (by rw [show f.gas - sg + (sg + st) = f.gas + st by omega]) (by omega) (by omega) (by omega)⟩
            · have hb33p := hb33.h; try simp only [al_ete, al_dfn, Bool.not_eq_true', Bool.not_eq_false', al_ne, Bool.not_not, al_nn] at hb33p
              have hnlt := hb33p
              refine W_skip ?_
              refine thn_normal ?_
              refine W_seq ?_
              refine W_region rfl ?_
              refine WO_p (PS_move_ptr rfl) ?_
              refine WO_p (PS_move_ptr rfl) ?_
              refine WO_p (PS_move_ptr rfl) ?_
              refine WO_p (PS_move_int rfl) ?_
              refine WO_call Hvad.call160 (by rfl) (Ret.mono (arg_spec C c5 v1 B4 { m with ret := (none, 0, 0), frames := m.frames.set t { f with gas := f.gas - sg } } t { f with gas := f.gas - sg } _ _ (MS.ext hM5 (by repeat (first | assumption | exact Ext.refl _ | refine Ext.alloc ?_ _ | refine Ext.drew ?_ | refine Ext.setB ?_ (by first | omega | (simp only [size_alloc, size_setB, size_drew]; omega)) _ | exact Ext.trans (by assumption) (by assumption) | refine Ext.trans ?_ (by assumption)))) hA5 (by omega)) ?_)
              rintro _ w160_34 ⟨hE160_34, rfl⟩
              have hz160_34 := hE160_34.1
              try simp only [size_alloc, size_setB, size_drew] at hz160_34
              rw [hAW5]
              refine WO_p (PS_move_ptr rfl) ?_
              refine WO_p (PS_move_ptr rfl) ?_
              refine WO_p (PS_move_int rfl) ?_
              refine WO_p (PS_add_i64n rfl rfl (by omega) (by omega)) ?_
              refine WO_call Hvad.call160 (by rfl) (Ret.mono (arg_spec C c5 v1 B4 { m with ret := (none, 0, 0), frames := m.frames.set t { f with gas := f.gas - sg } } t { f with gas := f.gas - sg } _ _ (MS.ext hM5 (by repeat (first | assumption | exact Ext.refl _ | refine Ext.alloc ?_ _ | refine Ext.drew ?_ | refine Ext.setB ?_ (by first | omega | (simp only [size_alloc, size_setB, size_drew]; omega)) _ | exact Ext.trans (by assumption) (by assumption) | refine Ext.trans ?_ (by assumption)))) hA5 (by omega)) ?_)
              rintro _ w160_35 ⟨hE160_35, rfl⟩
              have hz160_35 := hE160_35.1
              try simp only [size_alloc, size_setB, size_drew] at hz160_35
              rw [hAW5]
              refine WO_call Hvad.call188 (by rfl) (Ret.mono (read_spec C c5 v1 B4 { m with ret := (none, 0, 0), frames := m.frames.set t { f with gas := f.gas - sg } } t lo n _ _ _ (MS.ext hM5 (by repeat (first | assumption | exact Ext.refl _ | refine Ext.alloc ?_ _ | refine Ext.drew ?_ | refine Ext.setB ?_ (by first | omega | (simp only [size_alloc, size_setB, size_drew]; omega)) _ | exact Ext.trans (by assumption) (by assumption) | refine Ext.trans ?_ (by assumption)))) hT5 (hwdA _) (hwdA _) (hK.r1)) ?_)
              rintro _ w7 ⟨hE7, s7, L7, rfl, hN7, hL7, hB7⟩
              have hz7 := hE7.1
              try simp only [size_alloc, size_setB, size_drew] at hz7
              have hE57 : Ext w5 w7 := (by repeat (first | assumption | exact Ext.refl _ | refine Ext.alloc ?_ _ | refine Ext.drew ?_ | refine Ext.setB ?_ (by first | omega | (simp only [size_alloc, size_setB, size_drew]; omega)) _ | exact Ext.trans (by assumption) (by assumption) | refine Ext.trans ?_ (by assumption)))
              have hcap7 := hN7.cap
              have hlen7 := hN7.len
              refine WO_p (PS_move_tuple rfl) ?_
              refine WO_p (PS_extract_slice rfl rfl) ?_
              refine WO_p (PS_extract_bool rfl rfl) ?_
              refine WO_p (PS_assign_slice rfl) ?_
              refine WO_p (PS_assign_bool rfl) ?_
              refine WO_nil ?_
              refine thn_normal ?_
              refine W_seq ?_
              refine W_seq ?_
              refine W_region rfl ?_
              refine WO_p (PS_move_bool rfl) ?_
              refine WO_p (PS_not rfl) ?_
              refine WO_nil ?_
              refine thn_normal ?_
              refine W_if rfl (fun hb40 => ?_) (fun hb40 => ?_)
              · have hb40p := hb40.h; try simp only [al_ete, al_dfn, Bool.not_eq_true', Bool.not_eq_false', al_ne, Bool.not_not, al_nn] at hb40p
                simp at hb40p --END
              · have hb40p := hb40.h; try simp only [al_ete, al_dfn, Bool.not_eq_true', Bool.not_eq_false', al_ne, Bool.not_not, al_nn] at hb40p
                refine W_skip ?_
                refine thn_normal ?_
                refine W_seq ?_
                refine W_gen fun w38 hw38 => ?_
                have hE38 : Ext w5 w38 := by rw [hw38]; exact (by repeat (first | assumption | exact Ext.refl _ | refine Ext.alloc ?_ _ | refine Ext.drew ?_ | refine Ext.setB ?_ (by first | omega | (simp only [size_alloc, size_setB, size_drew]; omega)) _ | exact Ext.trans (by assumption) (by assumption) | refine Ext.trans ?_ (by assumption)))
                have hM38 := hM5.ext hE38
                have hS38 := hS5w.trans (MStep.ext hE38)
                have hk538 : ∀ β s L, BX w5 β s L → BX w38 β s L := fun β s L h => BX.ext h hE38
                have hzz38 : w5.heap.size ≤ w38.heap.size := by rw [hw38]; first | omega | (simp only [size_setB]; omega)
                have hb338 : Hb w38 b3 (.cells (ic .u8 (addrW (m.argW f 1))) 25 (0, 0)) := by rw [hw38]; exact Hb.mk (Hb.h (by repeat (first | assumption | exact Hb.newY _ _ | refine Hb.alloc ?_ | refine Hb.drew ?_ | refine Hb.ext (by assumption) ?_ | exact Hb.setSameL (by first | omega | (simp only [size_alloc, size_setB, size_drew]; omega)) | exact Hb.setSame (by assumption) | refine Hb.set (by first | omega | (simp only [size_alloc, size_setB, size_drew]; omega)) ?_ )))
                have hb438 : Hb w38 b4 (.cells (encF (K.sGas (sg + st))).toArray 65 (0, 0)) := by rw [hw38]; exact Hb.mk (Hb.h (by repeat (first | assumption | exact Hb.newY _ _ | refine Hb.alloc ?_ | refine Hb.drew ?_ | refine Hb.ext (by assumption) ?_ | exact Hb.setSameL (by first | omega | (simp only [size_alloc, size_setB, size_drew]; omega)) | exact Hb.setSame (by assumption) | refine Hb.set (by first | omega | (simp only [size_alloc, size_setB, size_drew]; omega)) ?_ )))
                have hE738 : Ext w7 w38 := by rw [hw38]; exact (by repeat (first | assumption | exact Ext.refl _ | refine Ext.alloc ?_ _ | refine Ext.drew ?_ | refine Ext.setB ?_ (by first | omega | (simp only [size_alloc, size_setB, size_drew]; omega)) _ | exact Ext.trans (by assumption) (by assumption) | refine Ext.trans ?_ (by assumption)))
                clear hw38
                have hl438 := hb438.lt
                have hz38 := hS38.keep.sz
                have hblk38 := hM38.vs.blk
                have hin38 : BX w38 (bb m) s7 L7 := (hN7.bx (fun b hb => Nat.lt_of_lt_of_le (bb_lt hM b hb) (by omega)) hB7).ext hE738
                have hKI : FmTy ((K.sGas (sg + st)).sInput s7) := hKg5.sInput
                have hKN : FmTy (((K.sGas (sg + st)).sInput s7).sNative (ntvW (addrW (m.argW f 1)))) := hKI.sNative (ntvW_bd _)
                have hKIb := (openFB hKI).bd
                have hKNb := (openFB hKN).bd
                have hKNn : Ce (encF (((K.sGas (sg + st)).sInput s7).sNative (ntvW (addrW (m.argW f 1))))).toArray (0 + 2) (.int .u8 (ntvW (addrW (m.argW f 1)))) := (openFB hKN).ntv
                
                refine W_region rfl ?_
                refine WO_p (PS_move_slice rfl) ?_
                refine WO_p (PS_fieldAddr 54 Hvad.runUnderlying65 rfl Hvad.sizeOf32 rfl rfl) ?_
                refine WO_store1 Hvad.sizeOf32 rfl (v := .slice _ _ _) rfl (Hb.h (by repeat (first | assumption | exact Hb.newY _ _ | refine Hb.alloc ?_ | refine Hb.drew ?_ | refine Hb.ext (by assumption) ?_ | exact Hb.setSameL (by first | omega | (simp only [size_alloc, size_setB, size_drew]; omega)) | exact Hb.setSame (by assumption) | refine Hb.set (by first | omega | (simp only [size_alloc, size_setB, size_drew]; omega)) ?_ ))) rfl (by omega) rfl ?_
                rw [fs_input hKg5]
                refine WO_nil ?_
                refine thn_normal ?_
                refine W_seq ?_
                refine W_gen fun w39 hw39 => ?_
                have hM39 : MS w39 C c5 v1 B4 { m with ret := (none, 0, 0), frames := m.frames.set t { f with gas := f.gas - sg } } := by rw [hw39]; exact MS.locT (MS.ext hM38 (by repeat (first | assumption | exact Ext.refl _ | refine Ext.alloc ?_ _ | refine Ext.drew ?_ | refine Ext.setB ?_ (by first | omega | (simp only [size_alloc, size_setB, size_drew]; omega)) _ | exact Ext.trans (by assumption) (by assumption) | refine Ext.trans ?_ (by assumption)))) (b := b4) (x := (encF (K.sGas (sg + st))).toArray) (T := 65) (fz := (0, 0)) (Hb.mk (Hb.h (by repeat (first | assumption | exact Hb.newY _ _ | refine Hb.alloc ?_ | refine Hb.drew ?_ | refine Hb.ext (by assumption) ?_ | exact Hb.setSameL (by first | omega | (simp only [size_alloc, size_setB, size_drew]; omega)) | exact Hb.setSame (by assumption) | refine Hb.set (by first | omega | (simp only [size_alloc, size_setB, size_drew]; omega)) ?_ )))) (by decide)
                have hS39 : MStep w w39 C B m B4 { m with ret := (none, 0, 0), frames := m.frames.set t { f with gas := f.gas - sg } } := by rw [hw39]; exact MStep.loc (hS38.trans (MStep.ext (by repeat (first | assumption | exact Ext.refl _ | refine Ext.alloc ?_ _ | refine Ext.drew ?_ | refine Ext.setB ?_ (by first | omega | (simp only [size_alloc, size_setB, size_drew]; omega)) _ | exact Ext.trans (by assumption) (by assumption) | refine Ext.trans ?_ (by assumption))))) (by omega) _
                have hk539 : ∀ β s L, BX w38 β s L → BX w39 β s L := fun β s L h => by rw [hw39]; exact (BX.ext h (by repeat (first | assumption | exact Ext.refl _ | refine Ext.alloc ?_ _ | refine Ext.drew ?_ | refine Ext.setB ?_ (by first | omega | (simp only [size_alloc, size_setB, size_drew]; omega)) _ | exact Ext.trans (by assumption) (by assumption) | refine Ext.trans ?_ (by assumption)))).kt (KT.setB (C := b4) (c := (encF (K.sGas (sg + st))).toArray) (T' := 65) (fz := (0, 0)) (Hb.mk (Hb.h (by repeat (first | assumption | exact Hb.newY _ _ | refine Hb.alloc ?_ | refine Hb.drew ?_ | refine Hb.ext (by assumption) ?_ | exact Hb.setSameL (by first | omega | (simp only [size_alloc, size_setB, size_drew]; omega)) | exact Hb.setSame (by assumption) | refine Hb.set (by first | omega | (simp only [size_alloc, size_setB, size_drew]; omega)) ?_ )))) (by decide))
                have hzz39 : w38.heap.size ≤ w39.heap.size := by rw [hw39]; first | omega | (simp only [size_setB]; omega)
                have hb339 : Hb w39 b3 (.cells (ic .u8 (addrW (m.argW f 1))) 25 (0, 0)) := by rw [hw39]; exact Hb.mk (Hb.h (by repeat (first | assumption | exact Hb.newY _ _ | refine Hb.alloc ?_ | refine Hb.drew ?_ | refine Hb.ext (by assumption) ?_ | exact Hb.setSameL (by first | omega | (simp only [size_alloc, size_setB, size_drew]; omega)) | exact Hb.setSame (by assumption) | refine Hb.set (by first | omega | (simp only [size_alloc, size_setB, size_drew]; omega)) ?_ )))
                have hb439 : Hb w39 b4 (.cells (encF ((K.sGas (sg + st)).sInput s7)).toArray 65 (0, 0)) := by rw [hw39]; exact Hb.mk (Hb.h (by repeat (first | assumption | exact Hb.newY _ _ | refine Hb.alloc ?_ | refine Hb.drew ?_ | refine Hb.ext (by assumption) ?_ | exact Hb.setSameL (by first | omega | (simp only [size_alloc, size_setB, size_drew]; omega)) | exact Hb.setSame (by assumption) | refine Hb.set (by first | omega | (simp only [size_alloc, size_setB, size_drew]; omega)) ?_ )))
                clear hw39
                have hl439 := hb439.lt
                have hz39 := hS39.keep.sz
                have hblk39 := hM39.vs.blk
                have hin39 := hk539 _ _ _ hin38
                refine W_region rfl ?_
                refine WO_loadA _ Hvad.isAgg25 Hvad.sizeOf25 rfl (Hb.h (by repeat (first | assumption | exact Hb.newY _ _ | refine Hb.alloc ?_ | refine Hb.drew ?_ | refine Hb.ext (by assumption) ?_ | exact Hb.setSameL (by first | omega | (simp only [size_alloc, size_setB, size_drew]; omega)) | exact Hb.setSame (by assumption) | refine Hb.set (by first | omega | (simp only [size_alloc, size_setB, size_drew]; omega)) ?_ ))) (by first | omega | assumption | rfl | decide | exact Nat.le_refl _ | (simp only [size_ic, Value.cells]; omega) | simp) (Xt.h (by first | assumption | exact Xt.whole rfl rfl | exact Xt.whole rfl (by simp only [size_ic, Value.cells]; omega) | exact ⟨rfl⟩)) ?_
                refine WO_call Hvad.call40 (by rfl) (Ret.mono (ntvAt_spec _ _ hTAb) ?_)
                rintro _ w40_40 ⟨hE40_40, rfl⟩
                have hz40_40 := hE40_40.1
                try simp only [size_alloc, size_setB, size_drew] at hz40_40
                refine WO_p (PS_fieldAddr 2 Hvad.runUnderlying65 rfl Hvad.sizeOf5 rfl rfl) ?_
                refine WO_store1 Hvad.sizeOf5 rfl (v := .int _ _) rfl (Hb.h (by repeat (first | assumption | exact Hb.newY _ _ | refine Hb.alloc ?_ | refine Hb.drew ?_ | refine Hb.ext (by assumption) ?_ | exact Hb.setSameL (by first | omega | (simp only [size_alloc, size_setB, size_drew]; omega)) | exact Hb.setSame (by assumption) | refine Hb.set (by first | omega | (simp only [size_alloc, size_setB, size_drew]; omega)) ?_ ))) rfl (by omega) rfl ?_
                rw [fs_ntv]
                refine WO_nil ?_
                refine thn_normal ?_
                refine W_seqJ (fun ρ w' => ∃ s8 Lc, Fr [(0, .pointer (some ⟨C, 0, none⟩)), (2, .pointer (some ⟨C, 1803 + t * 65, none⟩)), (4, .pointer (some ⟨b4, 0, none⟩)), (5, .int .i64 inn)] ρ ∧ MS w' C c5 v1 B4 { m with ret := (none, 0, 0), frames := m.frames.set t { f with gas := f.gas - sg } } ∧ MStep w w' C B m B4 { m with ret := (none, 0, 0), frames := m.frames.set t { f with gas := f.gas - sg } } ∧ v6.heap.size ≤ w'.heap.size ∧ Hb w' b4 (.cells (encF ((((K.sGas (sg + st)).sInput s7).sNative (ntvW (addrW (m.argW f 1)))).sCode s8)).toArray 65 (0, 0)) ∧ BX w' (bb m) s8 Lc ∧ BX w' (bb m) s7 L7 ∧ Lc.length ≤ 256 ∧ s8.2.1 ≤ s8.2.2 ∧ (¬ (ntvW (addrW (m.argW f 1))) = 0 → Lc = [])) ?_ ?_
                · skip
                  refine W_seq ?_
                  refine W_gen fun w40 hw40 => ?_
                  have hM40 : MS w40 C c5 v1 B4 { m with ret := (none, 0, 0), frames := m.frames.set t { f with gas := f.gas - sg } } := by rw [hw40]; exact MS.locT (MS.ext hM39 (by repeat (first | assumption | exact Ext.refl _ | refine Ext.alloc ?_ _ | refine Ext.drew ?_ | refine Ext.setB ?_ (by first | omega | (simp only [size_alloc, size_setB, size_drew]; omega)) _ | exact Ext.trans (by assumption) (by assumption) | refine Ext.trans ?_ (by assumption)))) (b := b4) (x := (encF ((K.sGas (sg + st)).sInput s7)).toArray) (T := 65) (fz := (0, 0)) (Hb.mk (Hb.h (by repeat (first | assumption | exact Hb.newY _ _ | refine Hb.alloc ?_ | refine Hb.drew ?_ | refine Hb.ext (by assumption) ?_ | exact Hb.setSameL (by first | omega | (simp only [size_alloc, size_setB, size_drew]; omega)) | exact Hb.setSame (by assumption) | refine Hb.set (by first | omega | (simp only [size_alloc, size_setB, size_drew]; omega)) ?_ )))) (by decide)
                  have hS40 : MStep w w40 C B m B4 { m with ret := (none, 0, 0), frames := m.frames.set t { f with gas := f.gas - sg } } := by rw [hw40]; exact MStep.loc (hS39.trans (MStep.ext (by repeat (first | assumption | exact Ext.refl _ | refine Ext.alloc ?_ _ | refine Ext.drew ?_ | refine Ext.setB ?_ (by first | omega | (simp only [size_alloc, size_setB, size_drew]; omega)) _ | exact Ext.trans (by assumption) (by assumption) | refine Ext.trans ?_ (by assumption))))) (by omega) _
                  have hk540 : ∀ β s L, BX w39 β s L → BX w40 β s L := fun β s L h => by rw [hw40]; exact (BX.ext h (by repeat (first | assumption | exact Ext.refl _ | refine Ext.alloc ?_ _ | refine Ext.drew ?_ | refine Ext.setB ?_ (by first | omega | (simp only [size_alloc, size_setB, size_drew]; omega)) _ | exact Ext.trans (by assumption) (by assumption) | refine Ext.trans ?_ (by assumption)))).kt (KT.setB (C := b4) (c := (encF ((K.sGas (sg + st)).sInput s7)).toArray) (T' := 65) (fz := (0, 0)) (Hb.mk (Hb.h (by repeat (first | assumption | exact Hb.newY _ _ | refine Hb.alloc ?_ | refine Hb.drew ?_ | refine Hb.ext (by assumption) ?_ | exact Hb.setSameL (by first | omega | (simp only [size_alloc, size_setB, size_drew]; omega)) | exact Hb.setSame (by assumption) | refine Hb.set (by first | omega | (simp only [size_alloc, size_setB, size_drew]; omega)) ?_ )))) (by decide))
                  have hzz40 : w39.heap.size ≤ w40.heap.size := by rw [hw40]; first | omega | (simp only [size_setB]; omega)
                  have hb340 : Hb w40 b3 (.cells (ic .u8 (addrW (m.argW f 1))) 25 (0, 0)) := by rw [hw40]; exact Hb.mk (Hb.h (by repeat (first | assumption | exact Hb.newY _ _ | refine Hb.alloc ?_ | refine Hb.drew ?_ | refine Hb.ext (by assumption) ?_ | exact Hb.setSameL (by first | omega | (simp only [size_alloc, size_setB, size_drew]; omega)) | exact Hb.setSame (by assumption) | refine Hb.set (by first | omega | (simp only [size_alloc, size_setB, size_drew]; omega)) ?_ )))
                  have hb440 : Hb w40 b4 (.cells (encF (((K.sGas (sg + st)).sInput s7).sNative (ntvW (addrW (m.argW f 1))))).toArray 65 (0, 0)) := by rw [hw40]; exact Hb.mk (Hb.h (by repeat (first | assumption | exact Hb.newY _ _ | refine Hb.alloc ?_ | refine Hb.drew ?_ | refine Hb.ext (by assumption) ?_ | exact Hb.setSameL (by first | omega | (simp only [size_alloc, size_setB, size_drew]; omega)) | exact Hb.setSame (by assumption) | refine Hb.set (by first | omega | (simp only [size_alloc, size_setB, size_drew]; omega)) ?_ )))
                  clear hw40
                  have hl440 := hb440.lt
                  have hz40 := hS40.keep.sz
                  have hblk40 := hM40.vs.blk
                  have hin40 := hk540 _ _ _ hin39
                  have hc_s40 := hM40.rep.s
                  have hKcode : K.code = (none, 0, 0) := by rw [hKe]; rfl
                  have hKcde : ((((K.sGas (sg + st)).sInput s7).sNative (ntvW (addrW (m.argW f 1)))).sCode (none, 0, 0)) = (((K.sGas (sg + st)).sInput s7).sNative (ntvW (addrW (m.argW f 1)))) := by rw [← hKcode]; rfl
                  refine W_region rfl ?_
                  refine WO_p (PS_fieldAddr 2 Hvad.runUnderlying65 rfl Hvad.sizeOf5 rfl rfl) ?_
                  refine WO_load (.int _ _) Hvad.isAgg5 rfl (Hb.h (by repeat (first | assumption | exact Hb.newY _ _ | refine Hb.alloc ?_ | refine Hb.drew ?_ | refine Hb.ext (by assumption) ?_ | exact Hb.setSameL (by first | omega | (simp only [size_alloc, size_setB, size_drew]; omega)) | exact Hb.setSame (by assumption) | refine Hb.set (by first | omega | (simp only [size_alloc, size_setB, size_drew]; omega)) ?_ ))) (Ce.h (by first | assumption | exact ⟨rfl⟩)) ?_
                  refine WO_p (PS_eql rfl rfl) ?_
                  refine WO_nil ?_
                  refine thn_normal ?_
                  refine W_if rfl (fun hb43 => ?_) (fun hb43 => ?_)
                  · have hb43p := hb43.h; try simp only [al_ete, al_dfn, Bool.not_eq_true', Bool.not_eq_false', al_ne, Bool.not_not, al_nn] at hb43p
                    have hn0 : (ntvW (addrW (m.argW f 1))) = 0 := by simpa using hb43p
                    refine W_drawE [false, false, false, false, false, false, false, false] hmix (by kernel_rfl) rfl ?_
                    refine WH_p (PS_move_ptr rfl) rfl ?_
                    refine WH_p (PS_nilCheck rfl) rfl ?_
                    refine WH_p (PS_fieldAddr 0 Hvad.runUnderlying69 rfl Hvad.sizeOf53 rfl rfl) rfl ?_
                    refine WH_load (.pointer _) Hvad.isAgg53 rfl (Hb.h (by repeat (first | assumption | exact Hb.newY _ _ | refine Hb.alloc ?_ | refine Hb.drew ?_ | refine Hb.ext (by assumption) ?_ | exact Hb.setSameL (by first | omega | (simp only [size_alloc, size_setB, size_drew]; omega)) | exact Hb.setSame (by assumption) | refine Hb.set (by first | omega | (simp only [size_alloc, size_setB, size_drew]; omega)) ?_ ))) (Ce.h (by first | assumption | exact ⟨rfl⟩)) ?_
                    refine WH_loadA _ Hvad.isAgg25 Hvad.sizeOf25 rfl (Hb.h (by repeat (first | assumption | exact Hb.newY _ _ | refine Hb.alloc ?_ | refine Hb.drew ?_ | refine Hb.ext (by assumption) ?_ | exact Hb.setSameL (by first | omega | (simp only [size_alloc, size_setB, size_drew]; omega)) | exact Hb.setSame (by assumption) | refine Hb.set (by first | omega | (simp only [size_alloc, size_setB, size_drew]; omega)) ?_ ))) (by first | omega | assumption | rfl | decide | exact Nat.le_refl _ | (simp only [size_ic, Value.cells]; omega) | simp) (Xt.h (by first | assumption | exact Xt.whole rfl rfl | exact Xt.whole rfl (by simp only [size_ic, Value.cells]; omega) | exact ⟨rfl⟩)) ?_
                    refine WH_call Hvad.call41 (by rfl) (Ret.mono (code_spec C c5 v1 B4 (bb m) _ _ (VS.ext hM40.vs (by repeat (first | assumption | exact Ext.refl _ | refine Ext.alloc ?_ _ | refine Ext.drew ?_ | refine Ext.setB ?_ (by first | omega | (simp only [size_alloc, size_setB, size_drew]; omega)) _ | exact Ext.trans (by assumption) (by assumption) | refine Ext.trans ?_ (by assumption)))) hTAb hcd1) ?_)
                    rintro _ w41 ⟨hE41, s8, L8, rfl, hN8, hB8, hL8⟩
                    refine ⟨(fun h => by cases h), ?_⟩
                    have hz41 := hE41.1
                    try simp only [size_alloc, size_setB, size_drew] at hz41
                    have hcl8 : v1.codeLen (addrW (m.argW f 1)) ≤ 256 := codeLen_le hadv1.vi
                    refine WH_p (PS_fieldAddr 53 Hvad.runUnderlying65 rfl Hvad.sizeOf32 rfl rfl) rfl ?_
                    refine WH_store1 Hvad.sizeOf32 rfl (v := .slice _ _ _) rfl (Hb.h (by repeat (first | assumption | exact Hb.newY _ _ | refine Hb.alloc ?_ | refine Hb.drew ?_ | refine Hb.ext (by assumption) ?_ | exact Hb.setSameL (by first | omega | (simp only [size_alloc, size_setB, size_drew]; omega)) | exact Hb.setSame (by assumption) | refine Hb.set (by first | omega | (simp only [size_alloc, size_setB, size_drew]; omega)) ?_ ))) rfl (by omega) rfl (fun h => by cases h) ?_
                    rw [fs_code hKN]
                    refine WH_nil ?_
                    refine thn_normal ?_
                    exact ⟨s8, L8, ⟨rfl, rfl, rfl, rfl, trivial⟩, MS.locT (MS.ext hM40 (by repeat (first | assumption | exact Ext.refl _ | refine Ext.alloc ?_ _ | refine Ext.drew ?_ | refine Ext.setB ?_ (by first | omega | (simp only [size_alloc, size_setB, size_drew]; omega)) _ | exact Ext.trans (by assumption) (by assumption) | refine Ext.trans ?_ (by assumption)))) (b := b4) (x := (encF (((K.sGas (sg + st)).sInput s7).sNative (ntvW (addrW (m.argW f 1))))).toArray) (T := 65) (fz := (0, 0)) (Hb.mk (Hb.h (by repeat (first | assumption | exact Hb.newY _ _ | refine Hb.alloc ?_ | refine Hb.drew ?_ | refine Hb.ext (by assumption) ?_ | exact Hb.setSameL (by first | omega | (simp only [size_alloc, size_setB, size_drew]; omega)) | exact Hb.setSame (by assumption) | refine Hb.set (by first | omega | (simp only [size_alloc, size_setB, size_drew]; omega)) ?_ )))) (by decide), MStep.loc (hS40.trans (MStep.ext (by repeat (first | assumption | exact Ext.refl _ | refine Ext.alloc ?_ _ | refine Ext.drew ?_ | refine Ext.setB ?_ (by first | omega | (simp only [size_alloc, size_setB, size_drew]; omega)) _ | exact Ext.trans (by assumption) (by assumption) | refine Ext.trans ?_ (by assumption))))) (by omega) _, by first | omega | (simp only [size_setB]; omega), Hb.mk (Hb.h (by repeat (first | assumption | exact Hb.newY _ _ | refine Hb.alloc ?_ | refine Hb.drew ?_ | refine Hb.ext (by assumption) ?_ | exact Hb.setSameL (by first | omega | (simp only [size_alloc, size_setB, size_drew]; omega)) | exact Hb.setSame (by assumption) | refine Hb.set (by first | omega | (simp only [size_alloc, size_setB, size_drew]; omega)) ?_ ))), BX.kt (hN8.bx (fun b hb => Nat.lt_of_lt_of_le (bb_lt hM b hb) (by first | omega | (simp only [size_drew]; omega))) hB8) (KT.setB (C := b4) (c := (encF (((K.sGas (sg + st)).sInput s7).sNative (ntvW (addrW (m.argW f 1))))).toArray) (T' := 65) (fz := (0, 0)) (Hb.mk (Hb.h (by repeat (first | assumption | exact Hb.newY _ _ | refine Hb.alloc ?_ | refine Hb.drew ?_ | refine Hb.ext (by assumption) ?_ | exact Hb.setSameL (by first | omega | (simp only [size_alloc, size_setB, size_drew]; omega)) | exact Hb.setSame (by assumption) | refine Hb.set (by first | omega | (simp only [size_alloc, size_setB, size_drew]; omega)) ?_ )))) (by decide)), BX.kt (BX.ext hin40 (by repeat (first | assumption | exact Ext.refl _ | refine Ext.alloc ?_ _ | refine Ext.drew ?_ | refine Ext.setB ?_ (by first | omega | (simp only [size_alloc, size_setB, size_drew]; omega)) _ | exact Ext.trans (by assumption) (by assumption) | refine Ext.trans ?_ (by assumption)))) (KT.setB (C := b4) (c := (encF (((K.sGas (sg + st)).sInput s7).sNative (ntvW (addrW (m.argW f 1))))).toArray) (T' := 65) (fz := (0, 0)) (Hb.mk (Hb.h (by repeat (first | assumption | exact Hb.newY _ _ | refine Hb.alloc ?_ | refine Hb.drew ?_ | refine Hb.ext (by assumption) ?_ | exact Hb.setSameL (by first | omega | (simp only [size_alloc, size_setB, size_drew]; omega)) | exact Hb.setSame (by assumption) | refine Hb.set (by first | omega | (simp only [size_alloc, size_setB, size_drew]; omega)) ?_ )))) (by decide)), by omega, hN8.cap, fun h => absurd hn0 h⟩
                  · have hb43p := hb43.h; try simp only [al_ete, al_dfn, Bool.not_eq_true', Bool.not_eq_false', al_ne, Bool.not_not, al_nn] at hb43p
                    have hn0 : ¬ (ntvW (addrW (m.argW f 1))) = 0 := by simpa using hb43p
                    refine W_skip ?_
                    refine thn_normal ?_
                    exact ⟨(none, 0, 0), [], ⟨rfl, rfl, rfl, rfl, trivial⟩, hM40, hS40, by omega, by rw [hKcde]; exact hb440, Or.inl ⟨rfl, rfl, rfl⟩, hin40, by simp, Nat.le_refl _, fun _ => rfl⟩
                · rintro ρ w42 ⟨s8, Lc, hFr42, hM42, hS42, hzv42, hb442, hcd42, hin42, hLc, hcap8, hnat⟩
                  refine W_env _ hFr42 ?_
                  have hz42 := hS42.keep.sz
                  have hl442 := hb442.lt
                  have hblk42 := hM42.vs.blk
                  have hcs42 := hM42.sz
                  have hKC : FmTy ((((K.sGas (sg + st)).sInput s7).sNative (ntvW (addrW (m.argW f 1)))).sCode s8) := hKN.sCode
                  have hKCb := (openFB hKC).bd
                  have hKCx : Xt (encF ((((K.sGas (sg + st)).sInput s7).sNative (ntvW (addrW (m.argW f 1)))).sCode s8)).toArray 0 (0 + 65) (encF ((((K.sGas (sg + st)).sInput s7).sNative (ntvW (addrW (m.argW f 1)))).sCode s8)).toArray := Xt.whole rfl (by have := encF_len hKC; simp only [List.size_toArray]; omega)
                  refine W_seq ?_
                  obtain ⟨hM43, hS43⟩ := hM42.putF_outOff (t := t) (f := { f with gas := f.gas - sg }) hf5 0 (by omega)
                  replace hM43 := hM43.castY (m' := { m with ret := (none, 0, 0), frames := m.frames.set t { f with gas := f.gas - sg, outOff := 0 } }) (by simp [List.set_set])
                  replace hS43 := hS43.castY (m'' := { m with ret := (none, 0, 0), frames := m.frames.set t { f with gas := f.gas - sg, outOff := 0 } }) (by simp [List.set_set])
                  have hblk43 := hM43.vs.blk
                  have hcs43 := hM43.sz
                  obtain ⟨hM44, hS44⟩ := hM43.putF_outLen (t := t) (f := { f with gas := f.gas - sg, outOff := 0 }) (by show (m.frames.set t _)[t]? = _; rw [List.getElem?_set_self (lt_of_getElem? hf)] : ({ m with ret := (none, 0, 0), frames := m.frames.set t { f with gas := f.gas - sg, outOff := 0 } } : Mc).frames[t]? = some { f with gas := f.gas - sg, outOff := 0 }) 0 (by omega)
                  replace hM44 := hM44.castY (m' := { m with ret := (none, 0, 0), frames := m.frames.set t { f with gas := f.gas - sg, outOff := 0, outLen := 0 } }) (by simp [List.set_set])
                  replace hS44 := hS44.castY (m'' := { m with ret := (none, 0, 0), frames := m.frames.set t { f with gas := f.gas - sg, outOff := 0, outLen := 0 } }) (by simp [List.set_set])
                  refine W_region rfl ?_
                  refine WO_p (PS_move_ptr rfl) ?_
                  refine WO_p (PS_nilCheck rfl) ?_
                  refine WO_p (PS_fieldAddr 63 Hvad.runUnderlying65 rfl Hvad.sizeOf54 rfl rfl) ?_
                  refine WO_store1 Hvad.sizeOf54 rfl (v := (.int _ _)) rfl (Hb.h (by repeat (first | assumption | exact Hb.newY _ _ | refine Hb.alloc ?_ | refine Hb.drew ?_ | refine Hb.ext (by assumption) ?_ | exact Hb.setSameL (by first | omega | (simp only [size_alloc, size_setB, size_drew]; omega)) | exact Hb.setSame (by assumption) | refine Hb.set (by first | omega | (simp only [size_alloc, size_setB, size_drew]; omega)) ?_ ))) rfl (by first | omega | assumption | rfl | decide | exact Nat.le_refl _ | (simp only [size_ic, Value.cells]; omega) | simp) rfl ?_
                  refine WO_nil ?_
                  refine thn_normal ?_
                  refine W_seq ?_
                  refine W_region rfl ?_
                  refine WO_p (PS_move_ptr rfl) ?_
                  refine WO_p (PS_nilCheck rfl) ?_
                  refine WO_p (PS_fieldAddr 64 Hvad.runUnderlying65 rfl Hvad.sizeOf54 rfl rfl) ?_
                  refine WO_store1 Hvad.sizeOf54 rfl (v := (.int _ _)) rfl (Hb.h (by repeat (first | assumption | exact Hb.newY _ _ | refine Hb.alloc ?_ | refine Hb.drew ?_ | refine Hb.ext (by assumption) ?_ | exact Hb.setSameL (by first | omega | (simp only [size_alloc, size_setB, size_drew]; omega)) | exact Hb.setSame (by assumption) | refine Hb.set (by first | omega | (simp only [size_alloc, size_setB, size_drew]; omega)) ?_ ))) rfl (by first | omega | assumption | rfl | decide | exact Nat.le_refl _ | (simp only [size_ic, Value.cells]; omega) | simp) rfl ?_
                  refine WO_nil ?_
                  refine thn_normal ?_
                  refine W_seqJ (fun ρ w' => ∃ c6 oo ol, Fr [(0, .pointer (some ⟨C, 0, none⟩)), (2, .pointer (some ⟨C, 1803 + t * 65, none⟩)), (4, .pointer (some ⟨b4, 0, none⟩)), (5, .int .i64 inn)] ρ ∧ MS w' C c6 v1 B4 { m with ret := (none, 0, 0), frames := m.frames.set t { f with gas := f.gas - sg, outOff := oo, outLen := ol } } ∧ MStep w42 w' C B4 { m with ret := (none, 0, 0), frames := m.frames.set t { f with gas := f.gas - sg } } B4 { m with ret := (none, 0, 0), frames := m.frames.set t { f with gas := f.gas - sg, outOff := oo, outLen := ol } } ∧ Hb w' b4 (.cells (encF ((((K.sGas (sg + st)).sInput s7).sNative (ntvW (addrW (m.argW f 1)))).sCode s8)).toArray 65 (0, 0)) ∧ (ol = 0 ∨ oo + ol ≤ n)) ?_ ?_
                  · skip
                    refine W_seq ?_
                    refine W_gen fun w44 hw44 => ?_
                    obtain ⟨c44, hM44', hS44'⟩ : ∃ c44, MS w44 C c44 v1 B4 { m with ret := (none, 0, 0), frames := m.frames.set t { f with gas := f.gas - sg, outOff := 0, outLen := 0 } } ∧ MStep w42 w44 C B4 { m with ret := (none, 0, 0), frames := m.frames.set t { f with gas := f.gas - sg } } B4 { m with ret := (none, 0, 0), frames := m.frames.set t { f with gas := f.gas - sg, outOff := 0, outLen := 0 } } := ⟨_, by rw [hw44]; exact hM44, by rw [hw44]; exact hS43.trans hS44⟩
                    have hb444 : Hb w44 b4 (.cells (encF ((((K.sGas (sg + st)).sInput s7).sNative (ntvW (addrW (m.argW f 1)))).sCode s8)).toArray 65 (0, 0)) := by rw [hw44]; exact Hb.mk (Hb.h (by repeat (first | assumption | exact Hb.newY _ _ | refine Hb.alloc ?_ | refine Hb.drew ?_ | refine Hb.ext (by assumption) ?_ | exact Hb.setSameL (by first | omega | (simp only [size_alloc, size_setB, size_drew]; omega)) | exact Hb.setSame (by assumption) | refine Hb.set (by first | omega | (simp only [size_alloc, size_setB, size_drew]; omega)) ?_ )))
                    clear hw44 hM44 hS44 hM43 hS43
                    have hz44 := hS44'.keep.sz
                    have hA44 : FrA { m with ret := (none, 0, 0), frames := m.frames.set t { f with gas := f.gas - sg, outOff := 0, outLen := 0 } } t { f with gas := f.gas - sg, outOff := 0, outLen := 0 } := ⟨hA.t6, (by show (m.frames.set t _)[t]? = _; rw [List.getElem?_set_self (lt_of_getElem? hf)] : ({ m with ret := (none, 0, 0), frames := m.frames.set t { f with gas := f.gas - sg, outOff := 0, outLen := 0 } } : Mc).frames[t]? = some { f with gas := f.gas - sg, outOff := 0, outLen := 0 }), hA.sb, hA.sp⟩
                    have hAW44 : ∀ i, ({ m with ret := (none, 0, 0), frames := m.frames.set t { f with gas := f.gas - sg, outOff := 0, outLen := 0 } } : Mc).argW { f with gas := f.gas - sg, outOff := 0, outLen := 0 } i = m.argW f i := fun i => argW_same rfl rfl rfl i
                    have hblk44 := hM44'.vs.blk
                    have hcs44 := hM44'.sz
                    have hwn := hwdA (inn + 3)
                    have hwnl := hwn.1
                    have hwo := hwdA (inn + 2)
                    have hwnb := wv_bd hwn
                    have hwob := wv_bd hwo
                    refine W_region rfl ?_
                    refine WO_p (PS_move_ptr rfl) ?_
                    refine WO_p (PS_move_ptr rfl) ?_
                    refine WO_p (PS_move_int rfl) ?_
                    refine WO_p (PS_add_i64n rfl rfl (by omega) (by omega)) ?_
                    refine WO_call Hvad.call160 (by rfl) (Ret.mono (arg_spec C c44 v1 B4 { m with ret := (none, 0, 0), frames := m.frames.set t { f with gas := f.gas - sg, outOff := 0, outLen := 0 } } t { f with gas := f.gas - sg, outOff := 0, outLen := 0 } _ _ (MS.ext hM44' (by repeat (first | assumption | exact Ext.refl _ | refine Ext.alloc ?_ _ | refine Ext.drew ?_ | refine Ext.setB ?_ (by first | omega | (simp only [size_alloc, size_setB, size_drew]; omega)) _ | exact Ext.trans (by assumption) (by assumption) | refine Ext.trans ?_ (by assumption)))) hA44 (by omega)) ?_)
                    rintro _ w160_44 ⟨hE160_44, rfl⟩
                    have hz160_44 := hE160_44.1
                    try simp only [size_alloc, size_setB, size_drew] at hz160_44
                    rw [hAW44]
                    refine WO_allocG Hvad.zeroValue59 ?_
                    intro b9 v9 hg9 hE9 hH9 hl9
                    try simp only [size_alloc, size_setB, size_drew] at hg9
                    have hzz9 := hE9.1
                    try simp only [size_alloc, size_setB, size_drew] at hzz9
                    replace hH9 : Hb v9 b9 (.cells (ic .u64 [0, 0, 0, 0]) 59 (0, 0)) := hH9
                    first | refine WO_storeW Hvad.sizeOf59 rfl (v := .agg _) rfl (Hb.h (by repeat (first | assumption | exact Hb.newY _ _ | refine Hb.alloc ?_ | refine Hb.drew ?_ | refine Hb.ext (by assumption) ?_ | exact Hb.setSameL (by first | omega | (simp only [size_alloc, size_setB, size_drew]; omega)) | exact Hb.setSame (by assumption) | refine Hb.set (by first | omega | (simp only [size_alloc, size_setB, size_drew]; omega)) ?_ ))) rfl (by first | omega | assumption | rfl | decide | exact Nat.le_refl _ | (simp only [size_ic, Value.cells]; omega) | simp) (by first | omega | assumption | rfl | decide | exact Nat.le_refl _ | (simp only [size_ic, Value.cells]; omega) | simp) (by first | exact oneCell_ic | assumption) ?_ | refine WO_store Hvad.sizeOf59 rfl (v := .agg _) rfl (Hb.h (by repeat (first | assumption | exact Hb.newY _ _ | refine Hb.alloc ?_ | refine Hb.drew ?_ | refine Hb.ext (by assumption) ?_ | exact Hb.setSameL (by first | omega | (simp only [size_alloc, size_setB, size_drew]; omega)) | exact Hb.setSame (by assumption) | refine Hb.set (by first | omega | (simp only [size_alloc, size_setB, size_drew]; omega)) ?_ ))) (by first | omega | assumption | rfl | decide | exact Nat.le_refl _ | (simp only [size_ic, Value.cells]; omega) | simp) (by first | omega | assumption | rfl | decide | exact Nat.le_refl _ | (simp only [size_ic, Value.cells]; omega) | simp) (by first | exact oneCell_ic | assumption) ?_
                    refine WO_nil ?_
                    refine thn_normal ?_
                    refine W_seq ?_
                    refine W_region rfl ?_
                    refine WO_loadA _ Hvad.isAgg59 Hvad.sizeOf59 rfl (Hb.h (by repeat (first | assumption | exact Hb.newY _ _ | refine Hb.alloc ?_ | refine Hb.drew ?_ | refine Hb.ext (by assumption) ?_ | exact Hb.setSameL (by first | omega | (simp only [size_alloc, size_setB, size_drew]; omega)) | exact Hb.setSame (by assumption) | refine Hb.set (by first | omega | (simp only [size_alloc, size_setB, size_drew]; omega)) ?_ ))) (by first | omega | assumption | rfl | decide | exact Nat.le_refl _ | (simp only [size_ic, Value.cells]; omega) | simp) (Xt.h (by first | assumption | exact Xt.whole rfl rfl | exact Xt.whole rfl (by simp only [size_ic, Value.cells]; omega) | exact ⟨rfl⟩)) ?_
                    refine WO_call Hvad.call131 (by rfl) (Ret.mono (isz_spec _ _ hwn) ?_)
                    rintro _ w131_45 ⟨rfl, hE131_45⟩
                    have hz131_45 := hE131_45.1
                    try simp only [size_alloc, size_setB, size_drew] at hz131_45
                    refine WO_p (PS_not rfl) ?_
                    refine WO_nil ?_
                    refine thn_normal ?_
                    refine W_if rfl (fun hb49 => ?_) (fun hb49 => ?_)
                    · have hb49p := hb49.h; try simp only [al_ete, al_dfn, Bool.not_eq_true', Bool.not_eq_false', al_ne, Bool.not_not, al_nn] at hb49p
                      have hnz0 := hb49p
                      refine W_seq ?_
                      have hnz : ¬ wv (m.argW f (inn + 3)) = 0 := by simpa using hnz0
                      have hr2 := hK.r2.resolve_left hnz
                      have hsm1 : smallW (m.argW f (inn + 2)) = wv (m.argW f (inn + 2)) := by unfold smallW; rw [if_pos (by omega)]
                      have hsm2 : smallW (m.argW f (inn + 3)) = wv (m.argW f (inn + 3)) := by unfold smallW; rw [if_pos (by omega)]
                      have hP46 := fun W (hW : Ext w44 W) => (hM44'.ext hW).putF_outOff (t := t) (f := { f with gas := f.gas - sg, outOff := 0, outLen := 0 }) (by show (m.frames.set t _)[t]? = _; rw [List.getElem?_set_self (lt_of_getElem? hf)] : ({ m with ret := (none, 0, 0), frames := m.frames.set t { f with gas := f.gas - sg, outOff := 0, outLen := 0 } } : Mc).frames[t]? = some { f with gas := f.gas - sg, outOff := 0, outLen := 0 }) (smallW (m.argW f (inn + 2))) (by omega)
                      refine W_region rfl ?_
                      refine WO_p (PS_move_ptr rfl) ?_
                      refine WO_p (PS_move_ptr rfl) ?_
                      refine WO_p (PS_move_ptr rfl) ?_
                      refine WO_p (PS_move_int rfl) ?_
                      refine WO_p (PS_add_i64n rfl rfl (by omega) (by omega)) ?_
                      refine WO_call Hvad.call160 (by rfl) (Ret.mono (arg_spec C c44 v1 B4 { m with ret := (none, 0, 0), frames := m.frames.set t { f with gas := f.gas - sg, outOff := 0, outLen := 0 } } t { f with gas := f.gas - sg, outOff := 0, outLen := 0 } _ _ (MS.ext hM44' (by repeat (first | assumption | exact Ext.refl _ | refine Ext.alloc ?_ _ | refine Ext.drew ?_ | refine Ext.setB ?_ (by first | omega | (simp only [size_alloc, size_setB, size_drew]; omega)) _ | exact Ext.trans (by assumption) (by assumption) | refine Ext.trans ?_ (by assumption)))) hA44 (by omega)) ?_)
                      rintro _ w160_49 ⟨hE160_49, rfl⟩
                      have hz160_49 := hE160_49.1
                      try simp only [size_alloc, size_setB, size_drew] at hz160_49
                      rw [hAW44]
                      refine WO_call Hvad.call195 (by rfl) (Ret.mono (small_spec _ _ (hwdA _)) ?_)
                      rintro _ w195_50 ⟨hE195_50, rfl⟩
                      have hz195_50 := hE195_50.1
                      try simp only [size_alloc, size_setB, size_drew] at hz195_50
                      refine WO_p (PS_nilCheck rfl) ?_
                      refine WO_p (PS_fieldAddr 63 Hvad.runUnderlying65 rfl Hvad.sizeOf54 rfl rfl) ?_
                      refine WO_store1 Hvad.sizeOf54 rfl (v := (.int _ _)) rfl (Hb.h (by repeat (first | assumption | exact Hb.newY _ _ | refine Hb.alloc ?_ | refine Hb.drew ?_ | refine Hb.ext (by assumption) ?_ | exact Hb.setSameL (by first | omega | (simp only [size_alloc, size_setB, size_drew]; omega)) | exact Hb.setSame (by assumption) | refine Hb.set (by first | omega | (simp only [size_alloc, size_setB, size_drew]; omega)) ?_ ))) rfl (by first | omega | assumption | rfl | decide | exact Nat.le_refl _ | (simp only [size_ic, Value.cells]; omega) | simp) rfl ?_
                      refine WO_nil ?_
                      refine thn_normal ?_
                      refine W_gen fun w47 hw47 => ?_
                      obtain ⟨c47, hM47, hS47⟩ : ∃ c47, MS w47 C c47 v1 B4 { m with ret := (none, 0, 0), frames := m.frames.set t { f with gas := f.gas - sg, outOff := smallW (m.argW f (inn + 2)), outLen := 0 } } ∧ MStep w42 w47 C B4 { m with ret := (none, 0, 0), frames := m.frames.set t { f with gas := f.gas - sg } } B4 { m with ret := (none, 0, 0), frames := m.frames.set t { f with gas := f.gas - sg, outOff := smallW (m.argW f (inn + 2)), outLen := 0 } } := ⟨_, by rw [hw47]; exact MS.castY (hP46 _ (by repeat (first | assumption | exact Ext.refl _ | refine Ext.alloc ?_ _ | refine Ext.drew ?_ | refine Ext.setB ?_ (by first | omega | (simp only [size_alloc, size_setB, size_drew]; omega)) _ | exact Ext.trans (by assumption) (by assumption) | refine Ext.trans ?_ (by assumption)))).1 (by simp [List.set_set]), by rw [hw47]; exact MStep.castY ((hS44'.trans (MStep.ext (by repeat (first | assumption | exact Ext.refl _ | refine Ext.alloc ?_ _ | refine Ext.drew ?_ | refine Ext.setB ?_ (by first | omega | (simp only [size_alloc, size_setB, size_drew]; omega)) _ | exact Ext.trans (by assumption) (by assumption) | refine Ext.trans ?_ (by assumption))))).trans (hP46 _ (by repeat (first | assumption | exact Ext.refl _ | refine Ext.alloc ?_ _ | refine Ext.drew ?_ | refine Ext.setB ?_ (by first | omega | (simp only [size_alloc, size_setB, size_drew]; omega)) _ | exact Ext.trans (by assumption) (by assumption) | refine Ext.trans ?_ (by assumption)))).2) (by simp [List.set_set])⟩
                      have hb447 : Hb w47 b4 (.cells (encF ((((K.sGas (sg + st)).sInput s7).sNative (ntvW (addrW (m.argW f 1)))).sCode s8)).toArray 65 (0, 0)) := by rw [hw47]; exact Hb.mk (Hb.h (by repeat (first | assumption | exact Hb.newY _ _ | refine Hb.alloc ?_ | refine Hb.drew ?_ | refine Hb.ext (by assumption) ?_ | exact Hb.setSameL (by first | omega | (simp only [size_alloc, size_setB, size_drew]; omega)) | exact Hb.setSame (by assumption) | refine Hb.set (by first | omega | (simp only [size_alloc, size_setB, size_drew]; omega)) ?_ )))
                      have hb947 : Hb w47 b9 (.cells (ic .u64 (m.argW f (inn + 3))) 59 (0, 0)) := by rw [hw47]; exact Hb.mk (Hb.h (by repeat (first | assumption | exact Hb.newY _ _ | refine Hb.alloc ?_ | refine Hb.drew ?_ | refine Hb.ext (by assumption) ?_ | exact Hb.setSameL (by first | omega | (simp only [size_alloc, size_setB, size_drew]; omega)) | exact Hb.setSame (by assumption) | refine Hb.set (by first | omega | (simp only [size_alloc, size_setB, size_drew]; omega)) ?_ )))
                      clear hw47
                      have hz47 := hS47.keep.sz
                      have hblk47 := hM47.vs.blk
                      have hcs47 := hM47.sz
                      have hP47 := fun W (hW : Ext w47 W) => (hM47.ext hW).putF_outLen (t := t) (f := { f with gas := f.gas - sg, outOff := smallW (m.argW f (inn + 2)), outLen := 0 }) (by show (m.frames.set t _)[t]? = _; rw [List.getElem?_set_self (lt_of_getElem? hf)] : ({ m with ret := (none, 0, 0), frames := m.frames.set t { f with gas := f.gas - sg, outOff := smallW (m.argW f (inn + 2)), outLen := 0 } } : Mc).frames[t]? = some { f with gas := f.gas - sg, outOff := smallW (m.argW f (inn + 2)), outLen := 0 }) (smallW (m.argW f (inn + 3))) (by omega)
                      refine W_region rfl ?_
                      refine WO_p (PS_move_ptr rfl) ?_
                      refine WO_loadA _ Hvad.isAgg59 Hvad.sizeOf59 rfl (Hb.h (by repeat (first | assumption | exact Hb.newY _ _ | refine Hb.alloc ?_ | refine Hb.drew ?_ | refine Hb.ext (by assumption) ?_ | exact Hb.setSameL (by first | omega | (simp only [size_alloc, size_setB, size_drew]; omega)) | exact Hb.setSame (by assumption) | refine Hb.set (by first | omega | (simp only [size_alloc, size_setB, size_drew]; omega)) ?_ ))) (by first | omega | assumption | rfl | decide | exact Nat.le_refl _ | (simp only [size_ic, Value.cells]; omega) | simp) (Xt.h (by first | assumption | exact Xt.whole rfl rfl | exact Xt.whole rfl (by simp only [size_ic, Value.cells]; omega) | exact ⟨rfl⟩)) ?_
                      refine WO_call Hvad.call195 (by rfl) (Ret.mono (small_spec _ _ (hwdA _)) ?_)
                      rintro _ w195_51 ⟨hE195_51, rfl⟩
                      have hz195_51 := hE195_51.1
                      try simp only [size_alloc, size_setB, size_drew] at hz195_51
                      refine WO_p (PS_nilCheck rfl) ?_
                      refine WO_p (PS_fieldAddr 64 Hvad.runUnderlying65 rfl Hvad.sizeOf54 rfl rfl) ?_
                      refine WO_store1 Hvad.sizeOf54 rfl (v := (.int _ _)) rfl (Hb.h (by repeat (first | assumption | exact Hb.newY _ _ | refine Hb.alloc ?_ | refine Hb.drew ?_ | refine Hb.ext (by assumption) ?_ | exact Hb.setSameL (by first | omega | (simp only [size_alloc, size_setB, size_drew]; omega)) | exact Hb.setSame (by assumption) | refine Hb.set (by first | omega | (simp only [size_alloc, size_setB, size_drew]; omega)) ?_ ))) rfl (by first | omega | assumption | rfl | decide | exact Nat.le_refl _ | (simp only [size_ic, Value.cells]; omega) | simp) rfl ?_
                      refine WO_nil ?_
                      refine thn_normal ?_
                      exact ⟨_, smallW (m.argW f (inn + 2)), smallW (m.argW f (inn + 3)), ⟨rfl, rfl, rfl, rfl, trivial⟩, MS.castY (hP47 _ (by repeat (first | assumption | exact Ext.refl _ | refine Ext.alloc ?_ _ | refine Ext.drew ?_ | refine Ext.setB ?_ (by first | omega | (simp only [size_alloc, size_setB, size_drew]; omega)) _ | exact Ext.trans (by assumption) (by assumption) | refine Ext.trans ?_ (by assumption)))).1 (by simp [List.set_set]), MStep.castY ((hS47.trans (MStep.ext (by repeat (first | assumption | exact Ext.refl _ | refine Ext.alloc ?_ _ | refine Ext.drew ?_ | refine Ext.setB ?_ (by first | omega | (simp only [size_alloc, size_setB, size_drew]; omega)) _ | exact Ext.trans (by assumption) (by assumption) | refine Ext.trans ?_ (by assumption))))).trans (hP47 _ (by repeat (first | assumption | exact Ext.refl _ | refine Ext.alloc ?_ _ | refine Ext.drew ?_ | refine Ext.setB ?_ (by first | omega | (simp only [size_alloc, size_setB, size_drew]; omega)) _ | exact Ext.trans (by assumption) (by assumption) | refine Ext.trans ?_ (by assumption)))).2) (by simp [List.set_set]), Hb.mk (Hb.h (by repeat (first | assumption | exact Hb.newY _ _ | refine Hb.alloc ?_ | refine Hb.drew ?_ | refine Hb.ext (by assumption) ?_ | exact Hb.setSameL (by first | omega | (simp only [size_alloc, size_setB, size_drew]; omega)) | exact Hb.setSame (by assumption) | refine Hb.set (by first | omega | (simp only [size_alloc, size_setB, size_drew]; omega)) ?_ ))), Or.inr (by omega)⟩
                    · have hb49p := hb49.h; try simp only [al_ete, al_dfn, Bool.not_eq_true', Bool.not_eq_false', al_ne, Bool.not_not, al_nn] at hb49p
                      refine W_skip ?_
                      refine thn_normal ?_
                      exact ⟨c44, 0, 0, ⟨rfl, rfl, rfl, rfl, trivial⟩, MS.ext hM44' (by repeat (first | assumption | exact Ext.refl _ | refine Ext.alloc ?_ _ | refine Ext.drew ?_ | refine Ext.setB ?_ (by first | omega | (simp only [size_alloc, size_setB, size_drew]; omega)) _ | exact Ext.trans (by assumption) (by assumption) | refine Ext.trans ?_ (by assumption))), hS44'.trans (MStep.ext (by repeat (first | assumption | exact Ext.refl _ | refine Ext.alloc ?_ _ | refine Ext.drew ?_ | refine Ext.setB ?_ (by first | omega | (simp only [size_alloc, size_setB, size_drew]; omega)) _ | exact Ext.trans (by assumption) (by assumption) | refine Ext.trans ?_ (by assumption)))), Hb.mk (Hb.h (by repeat (first | assumption | exact Hb.newY _ _ | refine Hb.alloc ?_ | refine Hb.drew ?_ | refine Hb.ext (by assumption) ?_ | exact Hb.setSameL (by first | omega | (simp only [size_alloc, size_setB, size_drew]; omega)) | exact Hb.setSame (by assumption) | refine Hb.set (by first | omega | (simp only [size_alloc, size_setB, size_drew]; omega)) ?_ ))), Or.inl rfl⟩
                  · rintro ρ w48 ⟨c6, oo, ol, hFr48, hM48, hS48, hb448, hoo⟩
                    refine W_env _ hFr48 ?_
                    have hz48 := hS48.keep.sz
                    have hA48 : FrA { m with ret := (none, 0, 0), frames := m.frames.set t { f with gas := f.gas - sg, outOff := oo, outLen := ol } } t { f with gas := f.gas - sg, outOff := oo, outLen := ol } := ⟨hA.t6, (by show (m.frames.set t _)[t]? = _; rw [List.getElem?_set_self (lt_of_getElem? hf)] : ({ m with ret := (none, 0, 0), frames := m.frames.set t { f with gas := f.gas - sg, outOff := oo, outLen := ol } } : Mc).frames[t]? = some { f with gas := f.gas - sg, outOff := oo, outLen := ol }), hA.sb, hA.sp⟩
                    refine W_seq ?_
                    refine W_region rfl ?_
                    refine WO_p (PS_move_ptr rfl) ?_
                    refine WO_p (PS_move_ptr rfl) ?_
                    refine WO_p (PS_move_int rfl) ?_
                    refine WO_p (PS_add_i64n rfl rfl (by omega) (by omega)) ?_
                    refine WO_p (PS_conv_u16n Hvad.runUnderlying3 Hvad.runUnderlying61 rfl (by omega) (by omega)) ?_
                    refine WO_p (PS_buildI (k := .u64) (zs := [0, 0, 0, 0]) (ps := []) (L := [0, 0, 0, 0]) Hvad.zeroValue59 Hvad.runUnderlying59 Hvad.sizeOf26 rfl rfl rfl rfl) ?_
                    refine WO_call Hvad.call155 (by rfl) (Ret.mono (settle_spec C c6 v1 B4 { m with ret := (none, 0, 0), frames := m.frames.set t { f with gas := f.gas - sg, outOff := oo, outLen := ol } } t { f with gas := f.gas - sg, outOff := oo, outLen := ol } (inn + 4) 0 false [0, 0, 0, 0] _ (MS.ext hM48 (by repeat (first | assumption | exact Ext.refl _ | refine Ext.alloc ?_ _ | refine Ext.drew ?_ | refine Ext.setB ?_ (by first | omega | (simp only [size_alloc, size_setB, size_drew]; omega)) _ | exact Ext.trans (by assumption) (by assumption) | refine Ext.trans ?_ (by assumption)))) hA48 (by show 0 ≤ _ ∧ _ ≤ f.sp; omega) (by intro h; cases h) Wd0 (by show (0:Int) ≤ 0 ∧ f.pc + 0 ≤ 65535; omega)) ?_)
                    rintro _ w49 hR49
                    obtain ⟨c7, B7, hM7, hS7⟩ := hR49
                    replace hM7 : MS w49 C c7 v1 B7 (({ m with ret := (none, 0, 0), frames := m.frames.set t { f with gas := f.gas - sg, outOff := oo, outLen := ol } } : Mc).settle t { f with gas := f.gas - sg, outOff := oo, outLen := ol } (inn + 4) false [0, 0, 0, 0] 0) := hM7
                    have hz49 := hS7.keep.sz
                    try simp only [size_alloc, size_setB, size_drew] at hz49
                    have hb449 := MS.box (MS.ext hM48 (by repeat (first | assumption | exact Ext.refl _ | refine Ext.alloc ?_ _ | refine Ext.drew ?_ | refine Ext.setB ?_ (by first | omega | (simp only [size_alloc, size_setB, size_drew]; omega)) _ | exact Ext.trans (by assumption) (by assumption) | refine Ext.trans ?_ (by assumption)))) hS7 (b := b4) (r := (encF ((((K.sGas (sg + st)).sInput s7).sNative (ntvW (addrW (m.argW f 1)))).sCode s8)).toArray) (T := 65) (fz := (0, 0)) (Hb.mk (Hb.h (by repeat (first | assumption | exact Hb.newY _ _ | refine Hb.alloc ?_ | refine Hb.drew ?_ | refine Hb.ext (by assumption) ?_ | exact Hb.setSameL (by first | omega | (simp only [size_alloc, size_setB, size_drew]; omega)) | exact Hb.setSame (by assumption) | refine Hb.set (by first | omega | (simp only [size_alloc, size_setB, size_drew]; omega)) ?_ )))) (by decide) (by decide)
                    have hS42_49 : MStep w42 w49 C B4 { m with ret := (none, 0, 0), frames := m.frames.set t { f with gas := f.gas - sg } } B7 (({ m with ret := (none, 0, 0), frames := m.frames.set t { f with gas := f.gas - sg, outOff := oo, outLen := ol } } : Mc).settle t { f with gas := f.gas - sg, outOff := oo, outLen := ol } (inn + 4) false [0, 0, 0, 0] 0) := hS48.trans ((MStep.ext (by repeat (first | assumption | exact Ext.refl _ | refine Ext.alloc ?_ _ | refine Ext.drew ?_ | refine Ext.setB ?_ (by first | omega | (simp only [size_alloc, size_setB, size_drew]; omega)) _ | exact Ext.trans (by assumption) (by assumption) | refine Ext.trans ?_ (by assumption)))).trans hS7)
                    refine WO_nil ?_
                    refine thn_normal ?_
                    have hcd49 : BX w49 (bb m) s8 Lc := BX.mstep (m := { m with ret := (none, 0, 0), frames := m.frames.set t { f with gas := f.gas - sg } }) hM42 hS42_49 hcd42
                    have hin49 : BX w49 (bb m) s7 L7 := BX.mstep (m := { m with ret := (none, 0, 0), frames := m.frames.set t { f with gas := f.gas - sg } }) hM42 hS42_49 hin42
                    have hGty : FmTy (((((K.sGas (sg + st)).sInput s7).sNative (ntvW (addrW (m.argW f 1)))).sCode s8).sCb Lc) := hKC.sCb
                    have hlt : ¬ wv (v1.bal f.self) < wv val := by simpa using hnlt
                    have htop6 : t ≤ 5 := by omega
                    have hkd := hK.kd
                    have hwn1 := hI.rw_.wn.sum
                    have hhS := hI.ti.hS
                    have hhd := wv_bd hM.ty.held
                    have hsbd := hI.sb hM.ty
                    have hjj := hI.rw_.j
                    have hadvj := hadv1.j
                    have hadvn := hadv1.nm
                    have hnn := hM.vs.ty.nmarks
                    have hrn := hroom.n
                    have hsnf := hI.sn t f (Nat.le_refl _) hf
                    have hnb : (n : Int) ≤ 717280 := by have := (hI.bs t (Nat.le_refl _)).2.2; rw [hszn] at this; exact this
                    have hwbi := wv_bd (hwdA inn)
                    have hs7l : s7.2.1 ≤ 717280 := by rcases hK.r1 with h | h <;> omega
                    have hEn : EnP v1 (({ m with ret := (none, 0, 0), frames := m.frames.set t { f with gas := f.gas - sg, outOff := oo, outLen := ol } } : Mc).settle t { f with gas := f.gas - sg, outOff := oo, outLen := ol } (inn + 4) false [0, 0, 0, 0] 0) (t + 1) (((((K.sGas (sg + st)).sInput s7).sNative (ntvW (addrW (m.argW f 1)))).sCode s8).sCb Lc) := by
                      refine ⟨?_, by omega, ?_, hGty, by show Lc.length ≤ 512; omega, hadv1.vi, ⟨by omega, by omega⟩, by omega, ?_, fun h3 h7 => ?_, fun h3 h7 => ?_, by rw [hsum1]; omega⟩
                      · show m.top = ((t + 1 : Nat) : Int) - 1; rw [hI.top]; omega
                      · show m.mtop = ((t + 1 : Nat) : Int); rw [hI.mtY]; omega
                      · show v1.entered K.self
                        rcases hK.self with h | h
                        · rw [h]; exact hent1
                        · rw [h]; exact hadv1.en _ hFk.en
                      · show v1.entered K.caller
                        rw [(hK.mv h3 h7).1]; exact hadv1.en _ hFk.en
                      · show wv K.value ≤ wv (v1.bal K.caller)
                        rw [(hK.mv h3 h7).1, (hK.mv h3 h7).2]; omega
                    have hmk : makes K.kind = false := by rcases hkd with h | h | h | h <;> (rw [h]; rfl)
                    have hblk49 := hM7.vs.blk
                    have hopk : f.cb.getD f.pc.toNat 0 = kindOpW K.kind := by have h := hop; unfold Mc.opc at h; rw [if_neg (by omega)] at h; rw [h]; exact hK.op
                    refine W_region rfl ?_
                    refine WO_p (PS_move_ptr rfl) ?_
                    refine WO_loadA _ Hvad.isAgg65 Hvad.sizeOf65 rfl (Hb.h (by repeat (first | assumption | exact Hb.newY _ _ | refine Hb.alloc ?_ | refine Hb.drew ?_ | refine Hb.ext (by assumption) ?_ | exact Hb.setSameL (by first | omega | (simp only [size_alloc, size_setB, size_drew]; omega)) | exact Hb.setSame (by assumption) | refine Hb.set (by first | omega | (simp only [size_alloc, size_setB, size_drew]; omega)) ?_ ))) (by first | omega | assumption | rfl | decide | exact Nat.le_refl _ | (simp only [size_ic, Value.cells]; omega) | simp) (Xt.h (by first | assumption | exact Xt.whole rfl rfl | exact Xt.whole rfl (by simp only [size_ic, Value.cells]; omega) | exact ⟨rfl⟩)) ?_
                    refine WO_call Hvad.call43 (by rfl) (Ret.mono (enter_spec C c7 v1 B7 (({ m with ret := (none, 0, 0), frames := m.frames.set t { f with gas := f.gas - sg, outOff := oo, outLen := ol } } : Mc).settle t { f with gas := f.gas - sg, outOff := oo, outLen := ol } (inn + 4) false [0, 0, 0, 0] 0) (t + 1) (((((K.sGas (sg + st)).sInput s7).sNative (ntvW (addrW (m.argW f 1)))).sCode s8).sCb Lc) _ (MS.ext hM7 (by repeat (first | assumption | exact Ext.refl _ | refine Ext.alloc ?_ _ | refine Ext.drew ?_ | refine Ext.setB ?_ (by first | omega | (simp only [size_alloc, size_setB, size_drew]; omega)) _ | exact Ext.trans (by assumption) (by assumption) | refine Ext.trans ?_ (by assumption)))) hEn (BX.ext hcd49 (by repeat (first | assumption | exact Ext.refl _ | refine Ext.alloc ?_ _ | refine Ext.drew ?_ | refine Ext.setB ?_ (by first | omega | (simp only [size_alloc, size_setB, size_drew]; omega)) _ | exact Ext.trans (by assumption) (by assumption) | refine Ext.trans ?_ (by assumption)))) (BX.ext hin49 (by repeat (first | assumption | exact Ext.refl _ | refine Ext.alloc ?_ _ | refine Ext.drew ?_ | refine Ext.setB ?_ (by first | omega | (simp only [size_alloc, size_setB, size_drew]; omega)) _ | exact Ext.trans (by assumption) (by assumption) | refine Ext.trans ?_ (by assumption)))).bs) ?_)
                    rintro _ wE ⟨x, y, hbx, hRE, hadvE⟩
                    rw [show makes (((((K.sGas (sg + st)).sInput s7).sNative (ntvW (addrW (m.argW f 1)))).sCode s8).sCb Lc).kind = false from hmk] at hadvE
                    replace hadvE : Adv v1 y 2 0 1 := hadvE
                    have hadvT : Adv v y (dj + 2) da 1 := by have h := hadv1.trans hadvE; simpa using h
                    have hFg : FOK scanW y (t + 1) ((((((K.sGas (sg + st)).sInput s7).sNative (ntvW (addrW (m.argW f 1)))).sCode s8).sCb Lc).at_ (t + 1) v1.nmarks) := ⟨rfl, by show ((t + 1 : Nat) : Int) * 64 = 64 * ((t + 1 : Nat) : Int); omega, by show K.sp ≤ 64; rw [hKe]; show (0 : Int) ≤ 64; decide, by show Lc.length ≤ 512; omega, by show K.pc ≤ _; rw [hKe]; show (0 : Int) ≤ _; omega, rfl, ⟨hs7l, hcap7⟩, hcap8, fun hn => ⟨ntvW_cases hn, by show Lc.length = 0; rw [hnat hn]; rfl, hmk⟩, ⟨by show K.kind ≤ 7; omega, by show K.kind ≤ 1 ↔ t + 1 = 0; omega⟩, hadvE.en _ hEn.es⟩
                    refine WO_nil ?_
                    first | refine bodyQ_ret0 Hvad.results111 ?_ | refine bodyQ_end0 Hvad.results111 ?_
                    exact ⟨y, _, MRet.trans hS42 (MRet.trans hS42_49 (MRet.pre (by repeat (first | assumption | exact Ext.refl _ | refine Ext.alloc ?_ _ | refine Ext.drew ?_ | refine Ext.setB ?_ (by first | omega | (simp only [size_alloc, size_setB, size_drew]; omega)) _ | exact Ext.trans (by assumption) (by assumption) | refine Ext.trans ?_ (by assumption))) hRE)), call_in hI hM.ty htop6 hf hbx hadvT hda1 (st := st) (sg := sg) hstv.1 hsgb (by omega) (by have := hc1.2.2.2; omega) hc1.2.1 hc1.2.2.1 rfl (by omega) rfl hFg (by show v1.nmarks = v.nmarks; omega) hpcl (by show 2 ≤ K.kind; omega) hopk (by omega) (by rcases hoo with h | h; exact Or.inl h; exact Or.inr ⟨hmk, by rw [hszn]; exact h⟩)⟩

end Go.Proofs.YgvadwGreat
